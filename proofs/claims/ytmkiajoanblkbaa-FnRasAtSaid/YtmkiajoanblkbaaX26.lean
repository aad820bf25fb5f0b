/- Functions of the given program as plain Lean functions, and for each the proof that the machine's call comes to what its function says. No condition but what each theorem states. Written by a program of this session. -/
import Derived.Test.YtmkiajoanblkbaaX0
import Derived.Test.YtmkiajoanblkbaaX11
import Derived.Test.YtmkiajoanblkbaaX12
import Derived.Test.YtmkiajoanblkbaaX25
namespace Go.Proofs.Ytmkiajoanblkbaa.X
open Go.RowKit Go.Proofs.YtmkiajoanblkbaaW.PrintWords Go.Proofs.YtmkiajoanblkbaaW.PrintLast Go.Proofs.YtmkiajoanblkbaaW.PrintMore
attribute [local go_sem] max2_int min2_int max_two min_two max_three min_three max_four min_four   -- for this text's walks alone
set_option linter.unusedVariables false
set_option linter.unusedSimpArgs false

/-! ### spec_l20Ras: function 50 -/
def spec_l20Ras.l0 : Nat → Int → Int → List Int → Int → Int → Int → List (S39) → Int → Int → Int → Int → Option (Int × Int × (List (S39)) × Int)
 | 0, _, _, _, _, _, _, _, _, _, _, _ => none
 | k + 1, x1, x7, x1000, x1001, x293000, x293001, x293002, x299000, x299001, x299002, x299003 => if x7 < (wrap64 (x293000 * x293001)) then ((spec_l20Rd_pick.f k x1000 x1001 3).bind fun bt299 => (if bt299.1 > 0 then ((spec_l20Pix.f k x1000 bt299.2).bind fun bt301 => (if x293002.length < 4398046511104 then (spec_l20Ras.l0 k x1 (wrap64 (x7 + 1)) x1000 bt301.2.2.2.2 x293000 x293001 (x293002 ++ [(⟨bt301.1, bt301.2.1, bt301.2.2.1, bt301.2.2.2.1⟩ : S39)]) bt301.1 bt301.2.1 bt301.2.2.1 bt301.2.2.2.1) else (none))) else (if x293002.length < 4398046511104 then (spec_l20Ras.l0 k x1 (wrap64 (x7 + 1)) x1000 bt299.2 x293000 x293001 (x293002 ++ [(⟨x299000, x299001, x299002, x299003⟩ : S39)]) x299000 x299001 x299002 x299003) else (none)))) else ((spec_l20Rd_odd.f k x1000 x1001 x1).bind fun bt312 => (if bt312.1 = true then ((spec_l20Rd_pick.f k x1000 bt312.2 4).bind fun bt314 => (if bt314.1 = 0 then ((some (([0, (-1), 7, wrap64 (x293000 + 1)] : List Int) : List Int)).bind fun y316 => ((spec_l20Rd_pick.f k x1000 bt314.2 4).bind fun bt319 => (if 0 ≤ bt319.1 then (if bt319.1 < (y316.length : Int) then (some (rd y316 bt319.1, x293001, x293002, bt319.2)) else (none)) else (none)))) else (if bt314.1 = 1 then ((some (([0, 7] : List Int) : List Int)).bind fun y322 => ((spec_l20Rd_pick.f k x1000 bt314.2 2).bind fun bt325 => (if 0 ≤ bt325.1 then (if bt325.1 < (y322.length : Int) then (some (x293000, rd y322 bt325.1, x293002, bt325.2)) else (none)) else (none)))) else (if bt314.1 = 2 then (if 1 ≤ (x293002.length : Int) then (some (x293000, x293001, (x293002.drop (1 : Int).toNat), bt314.2)) else (none)) else ((spec_l20Rd_pick.f k x1000 bt314.2 (x293002.length : Int)).bind fun bt331 => ((some (([(-1), 256] : List Int) : List Int)).bind fun y333 => ((spec_l20Rd_pick.f k x1000 bt331.2 2).bind fun bt336 => (if 0 ≤ bt336.1 then (if bt336.1 < (y333.length : Int) then (if 0 ≤ bt331.1 then (if bt331.1 < (x293002.length : Int) then (some (x293000, x293001, (x293002.set (bt331.1 : Int).toNat (⟨(rd_T39 x293002 bt331.1).f0, rd y333 bt336.1, (rd_T39 x293002 bt331.1).f2, (rd_T39 x293002 bt331.1).f3⟩ : S39)), bt336.2)) else (none)) else (none)) else (none)) else (none))))))))) else (some (x293000, x293001, x293002, bt312.2))))
def spec_l20Ras.f (k : Nat) (s0_0 : List Int) (s0_1 : Int) (a1 : Int) : Option (Int × Int × (List (S39)) × Int) := (spec_l20Rd_pick.f k s0_0 s0_1 6).bind fun bt288 => ((spec_l20Rd_pick.f k s0_0 bt288.2 6).bind fun bt290 => ((spec_l20Pix.f k s0_0 bt290.2).bind fun bt293 => (spec_l20Ras.l0 k a1 0 s0_0 bt293.2.2.2.2 (wrap64 (1 + bt288.1)) (wrap64 (1 + bt290.1)) ([] : List (S39)) bt293.1 bt293.2.1 bt293.2.2.1 bt293.2.2.2.1)))
theorem spec_l20Ras.mono_l : ∀ k, (∀ y0 y1 y2 y3 y4 y5 y6 y7 y8 y9 y10, LeO (spec_l20Ras.l0 k y0 y1 y2 y3 y4 y5 y6 y7 y8 y9 y10) (spec_l20Ras.l0 (k + 1) y0 y1 y2 y3 y4 y5 y6 y7 y8 y9 y10))
 | 0 => (fun _ _ _ _ _ _ _ _ _ _ _ r h => nomatch (show none = some r from h))
 | k + 1 => by
  have ih0 := spec_l20Ras.mono_l k
  ·intro y0 y1 y2 y3 y4 y5 y6 y7 y8 y9 y10
   unfold spec_l20Ras.l0
   repeat' first
   | (with_reducible exact ih0 _ _ _ _ _ _ _ _ _ _ _)
   | (with_reducible exact spec_l20Pix.mono _ _ _)
   | (with_reducible exact spec_l20Rd_odd.mono _ _ _ _)
   | (with_reducible exact spec_l20Rd_pick.mono _ _ _ _)
   | (with_reducible exact LeO.refl _)
   | (with_reducible exact LeO.none _)
   | (with_reducible refine LeO.ite ?_ ?_)
   | (with_reducible refine LeO.bind ?_ (fun _ => ?_))
   | exact ih0 _ _ _ _ _ _ _ _ _ _ _
   | exact spec_l20Pix.mono _ _ _
   | exact spec_l20Rd_odd.mono _ _ _ _
   | exact spec_l20Rd_pick.mono _ _ _ _
   | exact LeO.none _
   | refine LeO.ite ?_ ?_
   | refine LeO.bind ?_ (fun _ => ?_)
theorem spec_l20Ras.mono : ∀ a0 a1 a2 k, LeO (spec_l20Ras.f k a0 a1 a2) (spec_l20Ras.f (k + 1) a0 a1 a2) := by
 intro a0 a1 a2 k
 have ih0 := spec_l20Ras.mono_l k
 unfold spec_l20Ras.f
 repeat' first
   | (with_reducible exact ih0 _ _ _ _ _ _ _ _ _ _ _)
   | (with_reducible exact spec_l20Pix.mono _ _ _)
   | (with_reducible exact spec_l20Rd_odd.mono _ _ _ _)
   | (with_reducible exact spec_l20Rd_pick.mono _ _ _ _)
   | (with_reducible exact LeO.refl _)
   | (with_reducible exact LeO.none _)
   | (with_reducible refine LeO.ite ?_ ?_)
   | (with_reducible refine LeO.bind ?_ (fun _ => ?_))
   | exact ih0 _ _ _ _ _ _ _ _ _ _ _
   | exact spec_l20Pix.mono _ _ _
   | exact spec_l20Rd_odd.mono _ _ _ _
   | exact spec_l20Rd_pick.mono _ _ _ _
   | exact LeO.none _
   | refine LeO.ite ?_ ?_
   | refine LeO.bind ?_ (fun _ => ?_)
def spec_l20Ras.T11 : Bool × List (List Nat × List Nat) := (true, [([], []), ([0], [0]), ([], []), ([], []), ([3], [3]), ([4], [4]), ([2, 5], [2, 5]), ([], []), ([], []), ([8, 6], [8]), ([7, 9], [7, 9]), ([10], [10]), ([1, 6, 0, 1, 2, 3, 4, 5, 6, 7, 8, 9, 10, 11], [1, 6]), ([12, 0, 1, 2, 3, 4, 5, 6, 7, 8, 9, 10, 11], [12]), ([13, 11, 9, 0, 1, 2, 3, 4, 5, 6, 7, 8, 9, 10, 11], [11, 13])])
def spec_l20Ras.B11 : List Nat := [0, 1, 0, 0, 8, 24, 60, 0, 0, 380, 1020, 2044, 4095, 8191, 16383]
theorem spec_l20Ras.tab11 : rtab .any (opsOf Try.f50 11) = spec_l20Ras.T11 := by kernel_rfl
theorem spec_l20Ras.bits11 : waitsOk spec_l20Ras.T11.2 spec_l20Ras.B11 = true := by kernel_rfl
def spec_l20Ras.T13 : Bool × List (List Nat × List Nat) := (true, [([], []), ([0], [0]), ([1], [1]), ([2], [2]), ([], []), ([4], [4]), ([3, 5], [3, 5]), ([6], [6]), ([0, 1, 2, 3, 4, 5, 6, 7], []), ([8, 7, 5, 0, 1, 2, 3, 4, 5, 6, 7], [7, 8])])
def spec_l20Ras.B13 : List Nat := [0, 1, 3, 7, 0, 16, 63, 127, 255, 511]
theorem spec_l20Ras.tab13 : rtab .any (opsOf Try.f50 13) = spec_l20Ras.T13 := by kernel_rfl
theorem spec_l20Ras.bits13 : waitsOk spec_l20Ras.T13.2 spec_l20Ras.B13 = true := by kernel_rfl
set_option maxHeartbeats 8000000 in
set_option maxRecDepth 100000 in
theorem spec_l20Ras.calls (k : Nat) (g : Nat) (s0_0 : List Int) (s0_1 : Int) (a1 : Int) (r1 : Int) (r2 : Int) (r3 : List (S39)) (r4 : Int) (w0 w : World) (hI : IsS82 w0 w g s0_0 s0_1) (hB : Below w0.heap.size w0 w) (h : spec_l20Ras.f k s0_0 s0_1 a1 = some (r1, r2, r3, r4)) :
  Calls Try.prog 50 #[.pointer (some ⟨g, 0, none⟩), .int .i64 a1] w fun e w' => ∃ v2_ : Value, e = .returned (.agg #[.int .i64 r1, .int .i64 r2, v2_]) ∧ Kd.Q k39 39 w' w.heap.size (fun _ => True) v2_ r3 ∧ IsS82 w0 w' g s0_0 r4 ∧ Below w0.heap.size w0 w' ∧ KeepBut w w' g none := by
 have hu36 := Try.underlying36
 have hu39 := Try.underlying39
 have HI0 := Aside0.mk hI
 have HK := Aside0.mk (KeepBut.refl w g none)
 have HL := Aside0.mk hB.size
 clear hI
 have HW0 := Aside0.mk hB.size
 have HB := Aside0.mk hB
 clear hB
 have H : ((spec_l20Rd_pick.f k s0_0 s0_1 6).bind fun bt288 => ((spec_l20Rd_pick.f k s0_0 bt288.2 6).bind fun bt290 => ((spec_l20Pix.f k s0_0 bt290.2).bind fun bt293 => (spec_l20Ras.l0 k a1 0 s0_0 bt293.2.2.2.2 (wrap64 (1 + bt288.1)) (wrap64 (1 + bt290.1)) ([] : List (S39)) bt293.1 bt293.2.1 bt293.2.2.1 bt293.2.2.2.1)))) = some (r1, r2, r3, r4) := h
 clear h
 replace H := Option.bind_eq_some_iff.mp H
 obtain ⟨⟨t288, t289⟩, A30, H⟩ := H
 replace H : ((spec_l20Rd_pick.f k s0_0 t289 6).bind fun bt290 => ((spec_l20Pix.f k s0_0 bt290.2).bind fun bt293 => (spec_l20Ras.l0 k a1 0 s0_0 bt293.2.2.2.2 (wrap64 (1 + t288)) (wrap64 (1 + bt290.1)) ([] : List (S39)) bt293.1 bt293.2.1 bt293.2.2.1 bt293.2.2.2.1))) = some (r1, r2, r3, r4) := H
 have A3 := Aside0.mk A30
 clear A30
 replace H := Option.bind_eq_some_iff.mp H
 obtain ⟨⟨t290, t291⟩, A40, H⟩ := H
 replace H : ((spec_l20Pix.f k s0_0 t291).bind fun bt293 => (spec_l20Ras.l0 k a1 0 s0_0 bt293.2.2.2.2 (wrap64 (1 + t288)) (wrap64 (1 + t290)) ([] : List (S39)) bt293.1 bt293.2.1 bt293.2.2.1 bt293.2.2.2.1)) = some (r1, r2, r3, r4) := H
 have A4 := Aside0.mk A40
 clear A40
 replace H := Option.bind_eq_some_iff.mp H
 obtain ⟨⟨t293, t294, t295, t296, t297⟩, A50, H⟩ := H
 replace H : (spec_l20Ras.l0 k a1 0 s0_0 t297 (wrap64 (1 + t288)) (wrap64 (1 + t290)) ([] : List (S39)) t293 t294 t295 t296) = some (r1, r2, r3, r4) := H
 have A5 := Aside0.mk A50
 clear A50
 have H' := Aside0.mk H
 clear H
 go_enter Try.func50, Try.ntmps50
 go_wp2_with (first | ((with_reducible refine gate_dst (N := 4) rfl ?_); refine box_event ?hg (N := 4) ?hd (cs := #[.int .i64 0, .int .i64 0, .slice none 0 0]) (t := 36) ?hr ?_; (case hd => rfl); (case hg => rfl); (case hr => first | (go_simp; done) | (go_simp; rfl)); intro gb287 hg w6 hbox hb; have n0_ := Aside0.mk (IsS82.below (by repeat (first | (with_reducible first | exact HI0.out | apply IsS82.alloc | apply IsS82.drewN | apply IsS82.drew | apply IsS82.set_1) | exact HI0.out)) hb); have n1_ := Aside0.mk (KeepBut.trans (by repeat (first | (with_reducible first | exact HK.out | apply KeepBut.set_ | apply keep_drewN | apply keep_drew | apply keep_alloc) | exact HK.out)) (KeepBut.of_below hb g none) (.inl rfl)); have n2_ := Aside0.mk (below_step (by repeat (first | (with_reducible first | exact HB.out | apply below_alloc | apply pw_below_drewN | apply below_drew1 | refine below_set ?_ (IsS82.ge HI0.out)) | exact HB.out)) hb); have n3_ := Aside0.mk (hbox); have n4_ := Aside0.mk ((by rw [hg]; exact (keep_size (w := w) (g := g) (row := none) (by repeat (first | (with_reducible first | exact HK.out | apply KeepBut.set_ | apply keep_drewN | apply keep_drew | apply keep_alloc) | exact HK.out))) : w.heap.size ≤ gb287)); have n5_ := Aside0.mk ((Nat.le_trans HW0.out (by rw [hg]; exact (keep_size (w := w) (g := g) (row := none) (by repeat (first | (with_reducible first | exact HK.out | apply KeepBut.set_ | apply keep_drewN | apply keep_drew | apply keep_alloc) | exact HK.out))) : w.heap.size ≤ gb287) : w0.heap.size ≤ gb287)); have n6_ := Aside0.mk ((by rw [hg]; exact Nat.ne_of_lt (IsS82.lt (show IsS82 w0 _ g s0_0 s0_1 from by repeat (first | (with_reducible first | exact HI0.out | apply IsS82.alloc | apply IsS82.drewN | apply IsS82.drew | apply IsS82.set_1) | exact HI0.out))) : g ≠ gb287)); have n7_ := Aside0.mk ((by rw [hg]; exact Nat.ne_of_gt (IsS82.lt (show IsS82 w0 _ g s0_0 s0_1 from by repeat (first | (with_reducible first | exact HI0.out | apply IsS82.alloc | apply IsS82.drewN | apply IsS82.drew | apply IsS82.set_1) | exact HI0.out))) : gb287 ≠ g)); clear HI0; clear HK; clear HB; have HI0 := n0_; have HK := n1_; have HB := n2_; have BK287 := n3_; have GW287 := n4_; have GE287 := n5_; have NB0_287 := n6_; have NB287_0 := n7_; clear n0_ n1_ n2_ n3_ n4_ n5_ n6_ n7_; clear hb hbox hg) | ((with_reducible refine gate_callee (f := 52) rfl ?_); refine goesL_ (some 9) rfl rfl Try.func52 (by kernel_rfl) rfl #[.pointer (some ⟨g, 0, none⟩), .int .i64 6] rfl (by (try simp only [List.map_toArray, List.map_cons, List.map_nil]); first | done | rfl | (simp only [List.length_drop, List.length_take]; rfl)) ?_; (with_reducible refine (spec_l20Rd_pick.calls k g s0_0 s0_1 6 t288 t289 w0 _ ?side1 ?side2 A3.out).mono ?_); (case side1 => repeat (first | (with_reducible first | exact HI0.out | apply IsS82.alloc | apply IsS82.drewN | apply IsS82.drew | apply IsS82.set_1 | refine IsS82.far ?_ NB0_287.out _) | exact HI0.out)); (case side2 => repeat (first | (with_reducible first | exact HB.out | apply below_alloc | apply pw_below_drewN | apply below_drew1 | refine below_set ?_ (IsS82.ge HI0.out) | refine below_set ?_ GE287.out) | exact HB.out)); rintro e w7 ⟨rfl, hi, hb, hk⟩; refine ⟨_, rfl, ?_⟩; have n0_ := Aside0.mk (KeepBut.blk hk (g' := gb287) (o := .cells #[.int .i64 0, .int .i64 0, .slice none 0 0] 36 (0, 0)) (by (with_reducible repeat (first | refine blk_drewN ?_ _ | refine blk_drew ?_ | refine blk_alloc ?_ _)); exact BK287.out) NB287_0.out (by simp)); have n1_ := Aside0.mk (KeepBut.trans (by repeat (first | (with_reducible first | exact HK.out | apply KeepBut.set_ | apply keep_drewN | apply keep_drew | apply keep_alloc | refine keep_far ?_ GW287.out _) | exact HK.out)) hk (.inl rfl)); have n2_ := Aside0.mk (hb); have n3_ := Aside0.mk (hi); clear BK287; clear HK; clear HB; clear HI0; have BK287 := n0_; have HK := n1_; have HB := n2_; have HI0 := n3_; clear n0_ n1_ n2_ n3_; (try clear hb); (try clear hb2); (try clear hk); (try clear hi)) | ((with_reducible refine gate_callee (f := 52) rfl ?_); refine goesL_ (some 12) rfl rfl Try.func52 (by kernel_rfl) rfl #[.pointer (some ⟨g, 0, none⟩), .int .i64 6] rfl (by (try simp only [List.map_toArray, List.map_cons, List.map_nil]); first | done | rfl | (simp only [List.length_drop, List.length_take]; rfl)) ?_; (with_reducible refine (spec_l20Rd_pick.calls k g s0_0 t289 6 t290 t291 w0 _ ?side1 ?side2 A4.out).mono ?_); (case side1 => repeat (first | (with_reducible first | exact HI0.out | apply IsS82.alloc | apply IsS82.drewN | apply IsS82.drew | apply IsS82.set_1 | refine IsS82.far ?_ NB0_287.out _) | exact HI0.out)); (case side2 => repeat (first | (with_reducible first | exact HB.out | apply below_alloc | apply pw_below_drewN | apply below_drew1 | refine below_set ?_ (IsS82.ge HI0.out) | refine below_set ?_ GE287.out) | exact HB.out)); rintro e w8 ⟨rfl, hi, hb, hk⟩; refine ⟨_, rfl, ?_⟩; have n0_ := Aside0.mk (KeepBut.blk hk (g' := gb287) (o := .cells #[.int .i64 0, .int .i64 0, .slice none 0 0] 36 (0, 0)) (by (with_reducible repeat (first | refine blk_drewN ?_ _ | refine blk_drew ?_ | refine blk_alloc ?_ _)); exact BK287.out) NB287_0.out (by simp)); have n1_ := Aside0.mk (KeepBut.trans (by repeat (first | (with_reducible first | exact HK.out | apply KeepBut.set_ | apply keep_drewN | apply keep_drew | apply keep_alloc | refine keep_far ?_ GW287.out _) | exact HK.out)) hk (.inl rfl)); have n2_ := Aside0.mk (hb); have n3_ := Aside0.mk (hi); clear BK287; clear HK; clear HB; clear HI0; have BK287 := n0_; have HK := n1_; have HB := n2_; have HI0 := n3_; clear n0_ n1_ n2_ n3_; (try clear hb); (try clear hb2); (try clear hk); (try clear hi)) | ((with_reducible refine gate_dst (N := 5) rfl ?_); refine box_event ?hg (N := 5) ?hd (cs := #[.int .i64 0, .int .i64 0, .slice none 0 0]) (t := 36) ?hr ?_; (case hd => rfl); (case hg => rfl); (case hr => first | (go_simp; done) | (go_simp; rfl)); intro gb292 hg w9 hbox hb; have n0_ := Aside0.mk (IsS82.below (by repeat (first | (with_reducible first | exact HI0.out | apply IsS82.alloc | apply IsS82.drewN | apply IsS82.drew | apply IsS82.set_1 | refine IsS82.far ?_ NB0_287.out _) | exact HI0.out)) hb); have n1_ := Aside0.mk (blk_below (g := gb287) (o := .cells #[.int .i64 0, .int .i64 0, .slice none 0 0] 36 (0, 0)) (by (with_reducible repeat (first | refine blk_drewN ?_ _ | refine blk_drew ?_ | refine blk_alloc ?_ _)); exact BK287.out) hb); have n2_ := Aside0.mk (KeepBut.trans (by repeat (first | (with_reducible first | exact HK.out | apply KeepBut.set_ | apply keep_drewN | apply keep_drew | apply keep_alloc | refine keep_far ?_ GW287.out _) | exact HK.out)) (KeepBut.of_below hb g none) (.inl rfl)); have n3_ := Aside0.mk (below_step (by repeat (first | (with_reducible first | exact HB.out | apply below_alloc | apply pw_below_drewN | apply below_drew1 | refine below_set ?_ (IsS82.ge HI0.out) | refine below_set ?_ GE287.out) | exact HB.out)) hb); have n4_ := Aside0.mk (hbox); have n5_ := Aside0.mk ((by rw [hg]; exact (keep_size (w := w) (g := g) (row := none) (by repeat (first | (with_reducible first | exact HK.out | apply KeepBut.set_ | apply keep_drewN | apply keep_drew | apply keep_alloc | refine keep_far ?_ GW287.out _) | exact HK.out))) : w.heap.size ≤ gb292)); have n6_ := Aside0.mk ((Nat.le_trans HW0.out (by rw [hg]; exact (keep_size (w := w) (g := g) (row := none) (by repeat (first | (with_reducible first | exact HK.out | apply KeepBut.set_ | apply keep_drewN | apply keep_drew | apply keep_alloc | refine keep_far ?_ GW287.out _) | exact HK.out))) : w.heap.size ≤ gb292) : w0.heap.size ≤ gb292)); have n7_ := Aside0.mk ((by rw [hg]; exact Nat.ne_of_lt (blk_lt (g := gb287) (o := .cells #[.int .i64 0, .int .i64 0, .slice none 0 0] 36 (0, 0)) (by (with_reducible repeat (first | refine blk_drewN ?_ _ | refine blk_drew ?_ | refine blk_alloc ?_ _)); exact BK287.out)) : gb287 ≠ gb292)); have n8_ := Aside0.mk ((by rw [hg]; exact Nat.ne_of_gt (blk_lt (g := gb287) (o := .cells #[.int .i64 0, .int .i64 0, .slice none 0 0] 36 (0, 0)) (by (with_reducible repeat (first | refine blk_drewN ?_ _ | refine blk_drew ?_ | refine blk_alloc ?_ _)); exact BK287.out)) : gb292 ≠ gb287)); have n9_ := Aside0.mk ((by rw [hg]; exact Nat.ne_of_lt (IsS82.lt (show IsS82 w0 _ g s0_0 t291 from by repeat (first | (with_reducible first | exact HI0.out | apply IsS82.alloc | apply IsS82.drewN | apply IsS82.drew | apply IsS82.set_1 | refine IsS82.far ?_ NB0_287.out _) | exact HI0.out))) : g ≠ gb292)); have n10_ := Aside0.mk ((by rw [hg]; exact Nat.ne_of_gt (IsS82.lt (show IsS82 w0 _ g s0_0 t291 from by repeat (first | (with_reducible first | exact HI0.out | apply IsS82.alloc | apply IsS82.drewN | apply IsS82.drew | apply IsS82.set_1 | refine IsS82.far ?_ NB0_287.out _) | exact HI0.out))) : gb292 ≠ g)); clear HI0; clear BK287; clear HK; clear HB; have HI0 := n0_; have BK287 := n1_; have HK := n2_; have HB := n3_; have BK292 := n4_; have GW292 := n5_; have GE292 := n6_; have NB287_292 := n7_; have NB292_287 := n8_; have NB0_292 := n9_; have NB292_0 := n10_; clear n0_ n1_ n2_ n3_ n4_ n5_ n6_ n7_ n8_ n9_ n10_; clear hb hbox hg; have hnb10 := NB292_287.out; have hnc10 := NB287_292.out; have hnb11 := NB292_0.out; have hnc11 := NB0_292.out; have hcz12_0 : w9.cell? ⟨gb292, 0, none⟩ = some (.int .i64 0) := (blk_cell BK292.out 0).trans rfl; have hcz12_1 : w9.cell? ⟨gb292, 1, none⟩ = some (.int .i64 0) := (blk_cell BK292.out 1).trans rfl; have hcz12_2 : w9.cell? ⟨gb292, 2, none⟩ = some (.slice none 0 0) := (blk_cell BK292.out 2).trans rfl; have hfz12_0 := blk_frozen BK292.out 0; have hfz12_1 := blk_frozen BK292.out 1; have hfz12_2 := blk_frozen BK292.out 2) | ((with_reducible refine gate_callee (f := 51) rfl ?_); refine goesL_ (some 16) rfl rfl Try.func51 (by kernel_rfl) rfl #[.pointer (some ⟨g, 0, none⟩)] rfl (by (try simp only [List.map_toArray, List.map_cons, List.map_nil]); first | done | rfl | (simp only [List.length_drop, List.length_take]; rfl)) ?_; (with_reducible refine (spec_l20Pix.calls k g s0_0 t291 t293 t294 t295 t296 t297 w0 _ ?side1 ?side2 A5.out).mono ?_); (case side1 => repeat (first | (with_reducible first | exact HI0.out | apply IsS82.alloc | apply IsS82.drewN | apply IsS82.drew | apply IsS82.set_1 | refine IsS82.far ?_ NB0_287.out _ | refine IsS82.far ?_ NB0_292.out _) | exact HI0.out)); (case side2 => repeat (first | (with_reducible first | exact HB.out | apply below_alloc | apply pw_below_drewN | apply below_drew1 | refine below_set ?_ (IsS82.ge HI0.out) | refine below_set ?_ GE287.out | refine below_set ?_ GE292.out) | exact HB.out)); rintro e w13 ⟨rfl, hi, hb, hk⟩; refine ⟨_, rfl, ?_⟩; have n0_ := Aside0.mk (KeepBut.blk hk (g' := gb287) (o := .cells #[.int .i64 0, .int .i64 0, .slice none 0 0] 36 (0, 0)) (by (with_reducible repeat (first | refine blk_drewN ?_ _ | refine blk_drew ?_ | refine blk_alloc ?_ _)); refine blk_far ?_ NB287_292.out _; (with_reducible repeat (first | refine blk_drewN ?_ _ | refine blk_drew ?_ | refine blk_alloc ?_ _)); refine blk_far ?_ NB287_292.out _; (with_reducible repeat (first | refine blk_drewN ?_ _ | refine blk_drew ?_ | refine blk_alloc ?_ _)); refine blk_far ?_ NB287_292.out _; (with_reducible repeat (first | refine blk_drewN ?_ _ | refine blk_drew ?_ | refine blk_alloc ?_ _)); exact BK287.out) NB287_0.out (by simp)); have n1_ := Aside0.mk (KeepBut.blk hk (g' := gb292) (o := .cells #[.int .i64 (wrap64 (1 + t288)), .int .i64 (wrap64 (1 + t290)), .slice none 0 0] 36 (0, 0)) (by (with_reducible repeat (first | refine blk_drewN ?_ _ | refine blk_drew ?_ | refine blk_alloc ?_ _)); refine blk_put (cs := #[.int .i64 (wrap64 (1 + t288)), .int .i64 (wrap64 (1 + t290)), .slice none 0 0]) ?_ 2 _ rfl; (with_reducible repeat (first | refine blk_drewN ?_ _ | refine blk_drew ?_ | refine blk_alloc ?_ _)); refine blk_put (cs := #[.int .i64 (wrap64 (1 + t288)), .int .i64 0, .slice none 0 0]) ?_ 1 _ rfl; (with_reducible repeat (first | refine blk_drewN ?_ _ | refine blk_drew ?_ | refine blk_alloc ?_ _)); refine blk_put (cs := #[.int .i64 0, .int .i64 0, .slice none 0 0]) ?_ 0 _ rfl; (with_reducible repeat (first | refine blk_drewN ?_ _ | refine blk_drew ?_ | refine blk_alloc ?_ _)); exact BK292.out) NB292_0.out (by simp)); have n2_ := Aside0.mk (KeepBut.trans (by repeat (first | (with_reducible first | exact HK.out | apply KeepBut.set_ | apply keep_drewN | apply keep_drew | apply keep_alloc | refine keep_far ?_ GW287.out _ | refine keep_far ?_ GW292.out _) | exact HK.out)) hk (.inl rfl)); have n3_ := Aside0.mk (hb); have n4_ := Aside0.mk (hi); clear BK287; clear BK292; clear HK; clear HB; clear HI0; have BK287 := n0_; have BK292 := n1_; have HK := n2_; have HB := n3_; have HI0 := n4_; clear n0_ n1_ n2_ n3_ n4_; (try clear hb); (try clear hb2); (try clear hk); (try clear hi)) | ((with_reducible refine gate_dst (N := 6) rfl ?_); refine box_event ?hg (N := 6) ?hd (cs := #[.int .i64 0, .int .i64 0, .int .i64 0, .int .i64 0]) (t := 39) ?hr ?_; (case hd => rfl); (case hg => rfl); (case hr => first | (go_simp; done) | (go_simp; rfl)); intro gb298 hg w14 hbox hb; have n0_ := Aside0.mk (IsS82.below (by repeat (first | (with_reducible first | exact HI0.out | apply IsS82.alloc | apply IsS82.drewN | apply IsS82.drew | apply IsS82.set_1 | refine IsS82.far ?_ NB0_287.out _ | refine IsS82.far ?_ NB0_292.out _) | exact HI0.out)) hb); have n1_ := Aside0.mk (blk_below (g := gb287) (o := .cells #[.int .i64 0, .int .i64 0, .slice none 0 0] 36 (0, 0)) (by (with_reducible repeat (first | refine blk_drewN ?_ _ | refine blk_drew ?_ | refine blk_alloc ?_ _)); exact BK287.out) hb); have n2_ := Aside0.mk (blk_below (g := gb292) (o := .cells #[.int .i64 (wrap64 (1 + t288)), .int .i64 (wrap64 (1 + t290)), .slice none 0 0] 36 (0, 0)) (by (with_reducible repeat (first | refine blk_drewN ?_ _ | refine blk_drew ?_ | refine blk_alloc ?_ _)); exact BK292.out) hb); have n3_ := Aside0.mk (KeepBut.trans (by repeat (first | (with_reducible first | exact HK.out | apply KeepBut.set_ | apply keep_drewN | apply keep_drew | apply keep_alloc | refine keep_far ?_ GW287.out _ | refine keep_far ?_ GW292.out _) | exact HK.out)) (KeepBut.of_below hb g none) (.inl rfl)); have n4_ := Aside0.mk (below_step (by repeat (first | (with_reducible first | exact HB.out | apply below_alloc | apply pw_below_drewN | apply below_drew1 | refine below_set ?_ (IsS82.ge HI0.out) | refine below_set ?_ GE287.out | refine below_set ?_ GE292.out) | exact HB.out)) hb); have n5_ := Aside0.mk (hbox); have n6_ := Aside0.mk ((by rw [hg]; exact (keep_size (w := w) (g := g) (row := none) (by repeat (first | (with_reducible first | exact HK.out | apply KeepBut.set_ | apply keep_drewN | apply keep_drew | apply keep_alloc | refine keep_far ?_ GW287.out _ | refine keep_far ?_ GW292.out _) | exact HK.out))) : w.heap.size ≤ gb298)); have n7_ := Aside0.mk ((Nat.le_trans HW0.out (by rw [hg]; exact (keep_size (w := w) (g := g) (row := none) (by repeat (first | (with_reducible first | exact HK.out | apply KeepBut.set_ | apply keep_drewN | apply keep_drew | apply keep_alloc | refine keep_far ?_ GW287.out _ | refine keep_far ?_ GW292.out _) | exact HK.out))) : w.heap.size ≤ gb298) : w0.heap.size ≤ gb298)); have n8_ := Aside0.mk ((by rw [hg]; exact Nat.ne_of_lt (blk_lt (g := gb287) (o := .cells #[.int .i64 0, .int .i64 0, .slice none 0 0] 36 (0, 0)) (by (with_reducible repeat (first | refine blk_drewN ?_ _ | refine blk_drew ?_ | refine blk_alloc ?_ _)); exact BK287.out)) : gb287 ≠ gb298)); have n9_ := Aside0.mk ((by rw [hg]; exact Nat.ne_of_gt (blk_lt (g := gb287) (o := .cells #[.int .i64 0, .int .i64 0, .slice none 0 0] 36 (0, 0)) (by (with_reducible repeat (first | refine blk_drewN ?_ _ | refine blk_drew ?_ | refine blk_alloc ?_ _)); exact BK287.out)) : gb298 ≠ gb287)); have n10_ := Aside0.mk ((by rw [hg]; exact Nat.ne_of_lt (blk_lt (g := gb292) (o := .cells #[.int .i64 (wrap64 (1 + t288)), .int .i64 (wrap64 (1 + t290)), .slice none 0 0] 36 (0, 0)) (by (with_reducible repeat (first | refine blk_drewN ?_ _ | refine blk_drew ?_ | refine blk_alloc ?_ _)); exact BK292.out)) : gb292 ≠ gb298)); have n11_ := Aside0.mk ((by rw [hg]; exact Nat.ne_of_gt (blk_lt (g := gb292) (o := .cells #[.int .i64 (wrap64 (1 + t288)), .int .i64 (wrap64 (1 + t290)), .slice none 0 0] 36 (0, 0)) (by (with_reducible repeat (first | refine blk_drewN ?_ _ | refine blk_drew ?_ | refine blk_alloc ?_ _)); exact BK292.out)) : gb298 ≠ gb292)); have n12_ := Aside0.mk ((by rw [hg]; exact Nat.ne_of_lt (IsS82.lt (show IsS82 w0 _ g s0_0 t297 from by repeat (first | (with_reducible first | exact HI0.out | apply IsS82.alloc | apply IsS82.drewN | apply IsS82.drew | apply IsS82.set_1 | refine IsS82.far ?_ NB0_287.out _ | refine IsS82.far ?_ NB0_292.out _) | exact HI0.out))) : g ≠ gb298)); have n13_ := Aside0.mk ((by rw [hg]; exact Nat.ne_of_gt (IsS82.lt (show IsS82 w0 _ g s0_0 t297 from by repeat (first | (with_reducible first | exact HI0.out | apply IsS82.alloc | apply IsS82.drewN | apply IsS82.drew | apply IsS82.set_1 | refine IsS82.far ?_ NB0_287.out _ | refine IsS82.far ?_ NB0_292.out _) | exact HI0.out))) : gb298 ≠ g)); clear HI0; clear BK287; clear BK292; clear HK; clear HB; have HI0 := n0_; have BK287 := n1_; have BK292 := n2_; have HK := n3_; have HB := n4_; have BK298 := n5_; have GW298 := n6_; have GE298 := n7_; have NB287_298 := n8_; have NB298_287 := n9_; have NB292_298 := n10_; have NB298_292 := n11_; have NB0_298 := n12_; have NB298_0 := n13_; clear n0_ n1_ n2_ n3_ n4_ n5_ n6_ n7_ n8_ n9_ n10_ n11_ n12_ n13_; clear hb hbox hg; have hnb15 := NB298_287.out; have hnc15 := NB287_298.out; have hnb16 := NB298_292.out; have hnc16 := NB292_298.out; have hnb17 := NB298_0.out; have hnc17 := NB0_298.out; have hcz18_0 : w14.cell? ⟨gb298, 0, none⟩ = some (.int .i64 0) := (blk_cell BK298.out 0).trans rfl; have hcz18_1 : w14.cell? ⟨gb298, 1, none⟩ = some (.int .i64 0) := (blk_cell BK298.out 1).trans rfl; have hcz18_2 : w14.cell? ⟨gb298, 2, none⟩ = some (.int .i64 0) := (blk_cell BK298.out 2).trans rfl; have hcz18_3 : w14.cell? ⟨gb298, 3, none⟩ = some (.int .i64 0) := (blk_cell BK298.out 3).trans rfl; have hfz18_0 := blk_frozen BK298.out 0; have hfz18_1 := blk_frozen BK298.out 1; have hfz18_2 := blk_frozen BK298.out 2; have hfz18_3 := blk_frozen BK298.out 3))
 go_loopg [7] k (fun kq v7 w' => ∃ (x7_1 : Int) (x1001_1 : Int) (x293002_1 : List (S39)) (x299000_1 : Int) (x299001_1 : Int) (x299002_1 : Int) (x299003_1 : Int) (u293002 : Value), v7 = .int .i64 x7_1 ∧ Aside0 (spec_l20Ras.l0 kq a1 x7_1 s0_0 x1001_1 (wrap64 (1 + t288)) (wrap64 (1 + t290)) x293002_1 x299000_1 x299001_1 x299002_1 x299003_1 = some (r1, r2, r3, r4)) ∧ Aside0 (kq ≤ k) ∧ Aside0 (Kd.Q k39 39 w' w.heap.size (fun k_ => k_ ≠ gb298) u293002 x293002_1) ∧ Aside0 (w'.heap[gb287]? = some (.cells #[.int .i64 0, .int .i64 0, (.slice none 0 0)] 36 (0, 0))) ∧ Aside0 (w'.heap[gb292]? = some (.cells #[.int .i64 (wrap64 (1 + t288)), .int .i64 (wrap64 (1 + t290)), u293002] 36 (0, 0))) ∧ Aside0 (w'.heap[gb298]? = some (.cells #[.int .i64 x299000_1, .int .i64 x299001_1, .int .i64 x299002_1, .int .i64 x299003_1] 39 (0, 0))) ∧ Aside0 (IsS82 w0 w' g s0_0 x1001_1) ∧ Aside0 (KeepBut w w' g none) ∧ Aside0 (Below w0.heap.size w0 w'))
 case atStart => exact ⟨(0), (t297), (([] : List (S39))), (t293), (t294), (t295), (t296), (.slice none 0 0), (by first | rfl | (simp; done) | (simp [*]; done)), H', ⟨Nat.le_refl _⟩, ⟨Kd.Q_of_R (by first | exact Kd.R_nil _ _ _ _ _ | exact Kd.N_nil _ _ _ _ _ | exact Kd.V_nil _ _ _ _ _ | exact Kd.Q_nil _ _ _ _ _ | exact Kd.S_nil _ _ _ _ _)⟩, ⟨by (with_reducible repeat (first | refine blk_drewN ?_ _ | refine blk_drew ?_ | refine blk_alloc ?_ _)); refine blk_far ?_ NB287_298.out _; (with_reducible repeat (first | refine blk_drewN ?_ _ | refine blk_drew ?_ | refine blk_alloc ?_ _)); refine blk_far ?_ NB287_298.out _; (with_reducible repeat (first | refine blk_drewN ?_ _ | refine blk_drew ?_ | refine blk_alloc ?_ _)); refine blk_far ?_ NB287_298.out _; (with_reducible repeat (first | refine blk_drewN ?_ _ | refine blk_drew ?_ | refine blk_alloc ?_ _)); refine blk_far ?_ NB287_298.out _; (with_reducible repeat (first | refine blk_drewN ?_ _ | refine blk_drew ?_ | refine blk_alloc ?_ _)); exact BK287.out⟩, ⟨by (with_reducible repeat (first | refine blk_drewN ?_ _ | refine blk_drew ?_ | refine blk_alloc ?_ _)); refine blk_far ?_ NB292_298.out _; (with_reducible repeat (first | refine blk_drewN ?_ _ | refine blk_drew ?_ | refine blk_alloc ?_ _)); refine blk_far ?_ NB292_298.out _; (with_reducible repeat (first | refine blk_drewN ?_ _ | refine blk_drew ?_ | refine blk_alloc ?_ _)); refine blk_far ?_ NB292_298.out _; (with_reducible repeat (first | refine blk_drewN ?_ _ | refine blk_drew ?_ | refine blk_alloc ?_ _)); refine blk_far ?_ NB292_298.out _; (with_reducible repeat (first | refine blk_drewN ?_ _ | refine blk_drew ?_ | refine blk_alloc ?_ _)); exact BK292.out⟩, ⟨by (with_reducible repeat (first | refine blk_drewN ?_ _ | refine blk_drew ?_ | refine blk_alloc ?_ _)); refine blk_put (cs := #[.int .i64 t293, .int .i64 t294, .int .i64 t295, .int .i64 0]) ?_ 3 _ rfl; (with_reducible repeat (first | refine blk_drewN ?_ _ | refine blk_drew ?_ | refine blk_alloc ?_ _)); refine blk_put (cs := #[.int .i64 t293, .int .i64 t294, .int .i64 0, .int .i64 0]) ?_ 2 _ rfl; (with_reducible repeat (first | refine blk_drewN ?_ _ | refine blk_drew ?_ | refine blk_alloc ?_ _)); refine blk_put (cs := #[.int .i64 t293, .int .i64 0, .int .i64 0, .int .i64 0]) ?_ 1 _ rfl; (with_reducible repeat (first | refine blk_drewN ?_ _ | refine blk_drew ?_ | refine blk_alloc ?_ _)); refine blk_put (cs := #[.int .i64 0, .int .i64 0, .int .i64 0, .int .i64 0]) ?_ 0 _ rfl; (with_reducible repeat (first | refine blk_drewN ?_ _ | refine blk_drew ?_ | refine blk_alloc ?_ _)); exact BK298.out⟩, ⟨by repeat (first | (with_reducible first | exact HI0.out | apply IsS82.alloc | apply IsS82.drewN | apply IsS82.drew | apply IsS82.set_1 | refine IsS82.far ?_ NB0_287.out _ | refine IsS82.far ?_ NB0_292.out _ | refine IsS82.far ?_ NB0_298.out _) | exact HI0.out)⟩, ⟨by repeat (first | (with_reducible first | exact HK.out | apply KeepBut.set_ | apply keep_drewN | apply keep_drew | apply keep_alloc | refine keep_far ?_ GW287.out _ | refine keep_far ?_ GW292.out _ | refine keep_far ?_ GW298.out _) | exact HK.out)⟩, ⟨by repeat (first | (with_reducible first | exact HB.out | apply below_alloc | apply pw_below_drewN | apply below_drew1 | refine below_set ?_ (IsS82.ge HI0.out) | refine below_set ?_ GE287.out | refine below_set ?_ GE292.out | refine below_set ?_ GE298.out) | exact HB.out)⟩⟩
 case round =>
  clear H'
  try clear c1
  try clear p2
  try clear c5
  try clear p6
  try clear c10
  try clear c11
  try clear c15
  try clear c16
  try clear c17
  try clear hcz12_0
  try clear hcz12_1
  try clear hcz12_2
  try clear hcz18_0
  try clear hcz18_1
  try clear hcz18_2
  try clear hcz18_3
  try clear hfz12_0
  try clear hfz12_1
  try clear hfz12_2
  try clear hfz18_0
  try clear hfz18_1
  try clear hfz18_2
  try clear hfz18_3
  obtain ⟨x7_1, x1001_1, x293002_1, x299000_1, x299001_1, x299002_1, x299003_1, u293002, rfl, HA, HK1, HO_293002, BK287, BK292, BK298, HI0, HK, HB⟩ := hrel
  cases gk with
  | zero => exact nomatch (show none = some _ from HA.out)
  | succ k1 =>
   have H := HA.out
   clear HA
   simp only [spec_l20Ras.l0] at H
   by_cases c19 : x7_1 < (wrap64 ((wrap64 (1 + t288)) * (wrap64 (1 + t290))))
   ·rw [if_pos c19] at H
    have c19b0 : decide (x7_1 < (wrap64 ((wrap64 (1 + t288)) * (wrap64 (1 + t290))))) = true := decide_eq_true c19
    clear c19
    replace H := Option.bind_eq_some_iff.mp H
    obtain ⟨⟨t299, t300⟩, A200, H⟩ := H
    replace H : (if t299 > 0 then ((spec_l20Pix.f k1 s0_0 t300).bind fun bt301 => (if x293002_1.length < 4398046511104 then (spec_l20Ras.l0 k1 a1 (wrap64 (x7_1 + 1)) s0_0 bt301.2.2.2.2 (wrap64 (1 + t288)) (wrap64 (1 + t290)) (x293002_1 ++ [(⟨bt301.1, bt301.2.1, bt301.2.2.1, bt301.2.2.2.1⟩ : S39)]) bt301.1 bt301.2.1 bt301.2.2.1 bt301.2.2.2.1) else (none))) else (if x293002_1.length < 4398046511104 then (spec_l20Ras.l0 k1 a1 (wrap64 (x7_1 + 1)) s0_0 t300 (wrap64 (1 + t288)) (wrap64 (1 + t290)) (x293002_1 ++ [(⟨x299000_1, x299001_1, x299002_1, x299003_1⟩ : S39)]) x299000_1 x299001_1 x299002_1 x299003_1) else (none))) = some (r1, r2, r3, r4) := H
    have A20 := Aside0.mk A200
    clear A200
    by_cases c21 : t299 > 0
    ·rw [if_pos c21] at H
     have c21b0 : decide (0 < t299) = true := decide_eq_true c21
     clear c21
     replace H := Option.bind_eq_some_iff.mp H
     obtain ⟨⟨t301, t302, t303, t304, t305⟩, A220, H⟩ := H
     replace H : (if x293002_1.length < 4398046511104 then (spec_l20Ras.l0 k1 a1 (wrap64 (x7_1 + 1)) s0_0 t305 (wrap64 (1 + t288)) (wrap64 (1 + t290)) (x293002_1 ++ [(⟨t301, t302, t303, t304⟩ : S39)]) t301 t302 t303 t304) else (none)) = some (r1, r2, r3, r4) := H
     have A22 := Aside0.mk A220
     clear A220
     by_cases c23 : x293002_1.length < 4398046511104
     ·rw [if_pos c23] at H
      have LMc23 := Aside0.mk c23
      clear c23
      obtain ⟨y306, hy306⟩ : ∃ y_ : List (S39), y_ = (x293002_1 ++ [(⟨t301, t302, t303, t304⟩ : S39)]) := ⟨_, rfl⟩
      replace H : (spec_l20Ras.l0 k1 a1 (wrap64 (x7_1 + 1)) s0_0 t305 (wrap64 (1 + t288)) (wrap64 (1 + t290)) y306 t301 t302 t303 t304) = some (r1, r2, r3, r4) := by first | (rw [hy306]; with_reducible exact H) | (have H2_ := (Option.bind_some _ _).symm.trans H; rw [hy306]; with_reducible exact H2_) | (have H2_ := (Option.bind_some _ _).symm.trans H; with_reducible exact H2_) | with_reducible exact H | (rw [hy306]; exact H) | exact H
      have Ny306 := Aside0.mk hy306
      clear hy306
      have H' := Aside0.mk H
      clear H
      have hnb24 := NB292_287.out
      have hnc24 := NB287_292.out
      have hnb25 := NB292_298.out
      have hnc25 := NB298_292.out
      have hnb26 := NB292_0.out
      have hnc26 := NB0_292.out
      have hcz27_0 : wr.cell? ⟨gb292, 0, none⟩ = some (.int .i64 (wrap64 (1 + t288))) := (blk_cell BK292.out 0).trans rfl
      have hcz27_1 : wr.cell? ⟨gb292, 1, none⟩ = some (.int .i64 (wrap64 (1 + t290))) := (blk_cell BK292.out 1).trans rfl
      have hcz27_2 : wr.cell? ⟨gb292, 2, none⟩ = some (u293002) := (blk_cell BK292.out 2).trans rfl
      have hfz27_0 := blk_frozen BK292.out 0
      have hfz27_1 := blk_frozen BK292.out 1
      have hfz27_2 := blk_frozen BK292.out 2
      go_wp2_with (first | ((with_reducible refine gate_callee (f := 52) rfl ?_); refine goesL_ (some 27) rfl rfl Try.func52 (by kernel_rfl) rfl #[.pointer (some ⟨g, 0, none⟩), .int .i64 3] rfl (by (try simp only [List.map_toArray, List.map_cons, List.map_nil]); first | done | rfl | (simp only [List.length_drop, List.length_take]; rfl)) ?_; (with_reducible refine (spec_l20Rd_pick.calls k1 g s0_0 x1001_1 3 t299 t300 w0 _ ?side1 ?side2 A20.out).mono ?_); (case side1 => repeat (first | (with_reducible first | exact HI0.out | apply IsS82.alloc | apply IsS82.drewN | apply IsS82.drew | apply IsS82.set_1 | refine IsS82.far ?_ NB0_287.out _ | refine IsS82.far ?_ NB0_292.out _ | refine IsS82.far ?_ NB0_298.out _) | exact HI0.out)); (case side2 => repeat (first | (with_reducible first | exact HB.out | apply below_alloc | apply pw_below_drewN | apply below_drew1 | refine below_set ?_ (IsS82.ge HI0.out) | refine below_set ?_ GE287.out | refine below_set ?_ GE292.out | refine below_set ?_ GE298.out) | exact HB.out)); rintro e w28 ⟨rfl, hi, hb, hk⟩; refine ⟨_, rfl, ?_⟩; have n0_ := Aside0.mk (Kd.Q_mono (Kd.Q_keep (IsS82.apartQ (show IsS82 w0 _ g s0_0 x1001_1 from by repeat (first | (with_reducible first | exact HI0.out | apply IsS82.alloc | apply IsS82.drewN | apply IsS82.drew | apply IsS82.set_1 | refine IsS82.far ?_ NB0_287.out _ | refine IsS82.far ?_ NB0_292.out _ | refine IsS82.far ?_ NB0_298.out _) | exact HI0.out)) (by (with_reducible repeat (first | apply Kd.Q_alloc | apply Kd.Q_drewN | apply Kd.Q_drew)); exact HO_293002.out) (by decide)) hk (fun _ h => h.2)) (fun _ h => h.1)); have n1_ := Aside0.mk (KeepBut.blk hk (g' := gb287) (o := .cells #[.int .i64 0, .int .i64 0, .slice none 0 0] 36 (0, 0)) (by (with_reducible repeat (first | refine blk_drewN ?_ _ | refine blk_drew ?_ | refine blk_alloc ?_ _)); exact BK287.out) NB287_0.out (by simp)); have n2_ := Aside0.mk (KeepBut.blk hk (g' := gb292) (o := .cells #[.int .i64 (wrap64 (1 + t288)), .int .i64 (wrap64 (1 + t290)), u293002] 36 (0, 0)) (by (with_reducible repeat (first | refine blk_drewN ?_ _ | refine blk_drew ?_ | refine blk_alloc ?_ _)); exact BK292.out) NB292_0.out (by simp)); have n3_ := Aside0.mk (KeepBut.blk hk (g' := gb298) (o := .cells #[.int .i64 x299000_1, .int .i64 x299001_1, .int .i64 x299002_1, .int .i64 x299003_1] 39 (0, 0)) (by (with_reducible repeat (first | refine blk_drewN ?_ _ | refine blk_drew ?_ | refine blk_alloc ?_ _)); exact BK298.out) NB298_0.out (by simp)); have n4_ := Aside0.mk (KeepBut.trans (by repeat (first | (with_reducible first | exact HK.out | apply KeepBut.set_ | apply keep_drewN | apply keep_drew | apply keep_alloc | refine keep_far ?_ GW287.out _ | refine keep_far ?_ GW292.out _ | refine keep_far ?_ GW298.out _) | exact HK.out)) hk (.inl rfl)); have n5_ := Aside0.mk (hb); have n6_ := Aside0.mk (hi); clear HO_293002; clear BK287; clear BK292; clear BK298; clear HK; clear HB; clear HI0; have HO_293002 := n0_; have BK287 := n1_; have BK292 := n2_; have BK298 := n3_; have HK := n4_; have HB := n5_; have HI0 := n6_; clear n0_ n1_ n2_ n3_ n4_ n5_ n6_; (try clear hb); (try clear hb2); (try clear hk); (try clear hi)) | ((with_reducible refine gate_callee (f := 51) rfl ?_); refine goesL_ (some 30) rfl rfl Try.func51 (by kernel_rfl) rfl #[.pointer (some ⟨g, 0, none⟩)] rfl (by (try simp only [List.map_toArray, List.map_cons, List.map_nil]); first | done | rfl | (simp only [List.length_drop, List.length_take]; rfl)) ?_; (with_reducible refine (spec_l20Pix.calls k1 g s0_0 t300 t301 t302 t303 t304 t305 w0 _ ?side1 ?side2 A22.out).mono ?_); (case side1 => repeat (first | (with_reducible first | exact HI0.out | apply IsS82.alloc | apply IsS82.drewN | apply IsS82.drew | apply IsS82.set_1 | refine IsS82.far ?_ NB0_287.out _ | refine IsS82.far ?_ NB0_292.out _ | refine IsS82.far ?_ NB0_298.out _) | exact HI0.out)); (case side2 => repeat (first | (with_reducible first | exact HB.out | apply below_alloc | apply pw_below_drewN | apply below_drew1 | refine below_set ?_ (IsS82.ge HI0.out) | refine below_set ?_ GE287.out | refine below_set ?_ GE292.out | refine below_set ?_ GE298.out) | exact HB.out)); rintro e w29 ⟨rfl, hi, hb, hk⟩; refine ⟨_, rfl, ?_⟩; have n0_ := Aside0.mk (Kd.Q_mono (Kd.Q_keep (IsS82.apartQ (show IsS82 w0 _ g s0_0 t300 from by repeat (first | (with_reducible first | exact HI0.out | apply IsS82.alloc | apply IsS82.drewN | apply IsS82.drew | apply IsS82.set_1 | refine IsS82.far ?_ NB0_287.out _ | refine IsS82.far ?_ NB0_292.out _ | refine IsS82.far ?_ NB0_298.out _) | exact HI0.out)) (by (with_reducible repeat (first | apply Kd.Q_alloc | apply Kd.Q_drewN | apply Kd.Q_drew)); exact HO_293002.out) (by decide)) hk (fun _ h => h.2)) (fun _ h => h.1)); have n1_ := Aside0.mk (KeepBut.blk hk (g' := gb287) (o := .cells #[.int .i64 0, .int .i64 0, .slice none 0 0] 36 (0, 0)) (by (with_reducible repeat (first | refine blk_drewN ?_ _ | refine blk_drew ?_ | refine blk_alloc ?_ _)); exact BK287.out) NB287_0.out (by simp)); have n2_ := Aside0.mk (KeepBut.blk hk (g' := gb292) (o := .cells #[.int .i64 (wrap64 (1 + t288)), .int .i64 (wrap64 (1 + t290)), u293002] 36 (0, 0)) (by (with_reducible repeat (first | refine blk_drewN ?_ _ | refine blk_drew ?_ | refine blk_alloc ?_ _)); exact BK292.out) NB292_0.out (by simp)); have n3_ := Aside0.mk (KeepBut.blk hk (g' := gb298) (o := .cells #[.int .i64 x299000_1, .int .i64 x299001_1, .int .i64 x299002_1, .int .i64 x299003_1] 39 (0, 0)) (by (with_reducible repeat (first | refine blk_drewN ?_ _ | refine blk_drew ?_ | refine blk_alloc ?_ _)); exact BK298.out) NB298_0.out (by simp)); have n4_ := Aside0.mk (KeepBut.trans (by repeat (first | (with_reducible first | exact HK.out | apply KeepBut.set_ | apply keep_drewN | apply keep_drew | apply keep_alloc | refine keep_far ?_ GW287.out _ | refine keep_far ?_ GW292.out _ | refine keep_far ?_ GW298.out _) | exact HK.out)) hk (.inl rfl)); have n5_ := Aside0.mk (hb); have n6_ := Aside0.mk (hi); clear HO_293002; clear BK287; clear BK292; clear BK298; clear HK; clear HB; clear HI0; have HO_293002 := n0_; have BK287 := n1_; have BK292 := n2_; have BK298 := n3_; have HK := n4_; have HB := n5_; have HI0 := n6_; clear n0_ n1_ n2_ n3_ n4_ n5_ n6_; (try clear hb); (try clear hb2); (try clear hk); (try clear hi); have hnb30 := NB298_287.out; have hnc30 := NB287_298.out; have hnb31 := NB298_0.out; have hnc31 := NB0_298.out; have hcz32_0 : w29.cell? ⟨gb298, 0, none⟩ = some (.int .i64 x299000_1) := (blk_cell BK298.out 0).trans rfl; have hcz32_1 : w29.cell? ⟨gb298, 1, none⟩ = some (.int .i64 x299001_1) := (blk_cell BK298.out 1).trans rfl; have hcz32_2 : w29.cell? ⟨gb298, 2, none⟩ = some (.int .i64 x299002_1) := (blk_cell BK298.out 2).trans rfl; have hcz32_3 : w29.cell? ⟨gb298, 3, none⟩ = some (.int .i64 x299003_1) := (blk_cell BK298.out 3).trans rfl; have hfz32_0 := blk_frozen BK298.out 0; have hfz32_1 := blk_frozen BK298.out 1; have hfz32_2 := blk_frozen BK298.out 2; have hfz32_3 := blk_frozen BK298.out 3; have hcz33_0 : w29.cell? ⟨gb292, 0, none⟩ = some (.int .i64 (wrap64 (1 + t288))) := (blk_cell BK292.out 0).trans rfl; have hcz33_1 : w29.cell? ⟨gb292, 1, none⟩ = some (.int .i64 (wrap64 (1 + t290))) := (blk_cell BK292.out 1).trans rfl; have hcz33_2 : w29.cell? ⟨gb292, 2, none⟩ = some (u293002) := (blk_cell BK292.out 2).trans rfl; have hfz33_0 := blk_frozen BK292.out 0; have hfz33_1 := blk_frozen BK292.out 1; have hfz33_2 := blk_frozen BK292.out 2) | ((with_reducible refine gate_builtin (b := .append) (xs := #[.tmp 32, .tmp 34]) rfl ?_); at_builtin; refine Kd.Q_append k39 w.heap.size rfl (.tmp 32) (.tmp 34) 34 39 (.agg #[(.int .i64 0), (.int .i64 0), (.int .i64 0), (.int .i64 0)]) 32 rfl Try.underlying34 info39 rfl (by decide) (by omega) u293002 x293002_1 (⟨t301, t302, t303, t304⟩ : S39) [.int .i64 t301, .int .i64 t302, .int .i64 t303, .int .i64 t304] (fun k_ => k_ ≠ gb298) (fun _ => False) rfl (by first | (go_simp; done) | (go_simp; rfl)) ?aP (fun _ hk => hk.elim) ?aF ?aO (Below.refl _ _) ?aS ?aL ?_; (case aP => exact k39_mkM _ _ _ (⟨t301, t302, t303, t304⟩ : S39)); (case aF => exact (fun k_ hk => Kd.freshB (g := gb298) (o := .cells #[.int .i64 t301, .int .i64 t302, .int .i64 t303, .int .i64 t304] 39 (0, 0)) (by (with_reducible repeat (first | refine blk_drewN ?_ _ | refine blk_drew ?_ | refine blk_alloc ?_ _)); refine blk_put (cs := #[.int .i64 t301, .int .i64 t302, .int .i64 t303, .int .i64 x299003_1]) ?_ 3 _ rfl; (with_reducible repeat (first | refine blk_drewN ?_ _ | refine blk_drew ?_ | refine blk_alloc ?_ _)); refine blk_put (cs := #[.int .i64 t301, .int .i64 t302, .int .i64 x299002_1, .int .i64 x299003_1]) ?_ 2 _ rfl; (with_reducible repeat (first | refine blk_drewN ?_ _ | refine blk_drew ?_ | refine blk_alloc ?_ _)); refine blk_put (cs := #[.int .i64 t301, .int .i64 x299001_1, .int .i64 x299002_1, .int .i64 x299003_1]) ?_ 1 _ rfl; (with_reducible repeat (first | refine blk_drewN ?_ _ | refine blk_drew ?_ | refine blk_alloc ?_ _)); refine blk_put (cs := #[.int .i64 x299000_1, .int .i64 x299001_1, .int .i64 x299002_1, .int .i64 x299003_1]) ?_ 0 _ rfl; (with_reducible repeat (first | refine blk_drewN ?_ _ | refine blk_drew ?_ | refine blk_alloc ?_ _)); exact BK298.out) k_ hk)); (case aO => exact (by (with_reducible repeat (first | apply Kd.Q_alloc | apply Kd.Q_drewN | apply Kd.Q_drew)); exact Kd.Q_mono (Kd.Q_far (p := ⟨gb298, 3, none⟩) (Kd.Q_far (p := ⟨gb298, 2, none⟩) (Kd.Q_far (p := ⟨gb298, 1, none⟩) (Kd.Q_far (p := ⟨gb298, 0, none⟩) (Kd.Q_mono HO_293002.out (fun k_ hk => (⟨hk, hk⟩ : _ ∧ k_ ≠ gb298))) (fun _ hk => hk.2) (.int .i64 t301)) (fun _ hk => hk.2) (.int .i64 t302)) (fun _ hk => hk.2) (.int .i64 t303)) (fun _ hk => hk.2) (.int .i64 t304)) (fun _ hk => hk.1))); (case aS => exact (keep_size (w := w) (g := g) (row := none) (by repeat (first | (with_reducible first | exact HK.out | apply KeepBut.set_ | apply keep_drewN | apply keep_drew | apply keep_alloc | refine keep_far ?_ GW287.out _ | refine keep_far ?_ GW292.out _ | refine keep_far ?_ GW298.out _) | exact HK.out)))); (case aL => have := LMc23.out; omega); intro v307 w34 ho hb hg hat; rw [← Ny306.out] at ho; have n0_ := Aside0.mk (blk_grown (g := gb287) (o := .cells #[.int .i64 0, .int .i64 0, .slice none 0 0] 36 (0, 0)) (by (with_reducible repeat (first | refine blk_drewN ?_ _ | refine blk_drew ?_ | refine blk_alloc ?_ _)); refine blk_far ?_ NB287_298.out _; (with_reducible repeat (first | refine blk_drewN ?_ _ | refine blk_drew ?_ | refine blk_alloc ?_ _)); refine blk_far ?_ NB287_298.out _; (with_reducible repeat (first | refine blk_drewN ?_ _ | refine blk_drew ?_ | refine blk_alloc ?_ _)); refine blk_far ?_ NB287_298.out _; (with_reducible repeat (first | refine blk_drewN ?_ _ | refine blk_drew ?_ | refine blk_alloc ?_ _)); refine blk_far ?_ NB287_298.out _; (with_reducible repeat (first | refine blk_drewN ?_ _ | refine blk_drew ?_ | refine blk_alloc ?_ _)); exact BK287.out) hg (Kd.Q_ne HO_293002.out BK287.out (by decide))); have n1_ := Aside0.mk (blk_grown (g := gb292) (o := .cells #[.int .i64 (wrap64 (1 + t288)), .int .i64 (wrap64 (1 + t290)), u293002] 36 (0, 0)) (by (with_reducible repeat (first | refine blk_drewN ?_ _ | refine blk_drew ?_ | refine blk_alloc ?_ _)); refine blk_far ?_ NB292_298.out _; (with_reducible repeat (first | refine blk_drewN ?_ _ | refine blk_drew ?_ | refine blk_alloc ?_ _)); refine blk_far ?_ NB292_298.out _; (with_reducible repeat (first | refine blk_drewN ?_ _ | refine blk_drew ?_ | refine blk_alloc ?_ _)); refine blk_far ?_ NB292_298.out _; (with_reducible repeat (first | refine blk_drewN ?_ _ | refine blk_drew ?_ | refine blk_alloc ?_ _)); refine blk_far ?_ NB292_298.out _; (with_reducible repeat (first | refine blk_drewN ?_ _ | refine blk_drew ?_ | refine blk_alloc ?_ _)); exact BK292.out) hg (Kd.Q_ne HO_293002.out BK292.out (by decide))); have n2_ := Aside0.mk (blk_grown (g := gb298) (o := .cells #[.int .i64 t301, .int .i64 t302, .int .i64 t303, .int .i64 t304] 39 (0, 0)) (by (with_reducible repeat (first | refine blk_drewN ?_ _ | refine blk_drew ?_ | refine blk_alloc ?_ _)); refine blk_put (cs := #[.int .i64 t301, .int .i64 t302, .int .i64 t303, .int .i64 x299003_1]) ?_ 3 _ rfl; (with_reducible repeat (first | refine blk_drewN ?_ _ | refine blk_drew ?_ | refine blk_alloc ?_ _)); refine blk_put (cs := #[.int .i64 t301, .int .i64 t302, .int .i64 x299002_1, .int .i64 x299003_1]) ?_ 2 _ rfl; (with_reducible repeat (first | refine blk_drewN ?_ _ | refine blk_drew ?_ | refine blk_alloc ?_ _)); refine blk_put (cs := #[.int .i64 t301, .int .i64 x299001_1, .int .i64 x299002_1, .int .i64 x299003_1]) ?_ 1 _ rfl; (with_reducible repeat (first | refine blk_drewN ?_ _ | refine blk_drew ?_ | refine blk_alloc ?_ _)); refine blk_put (cs := #[.int .i64 x299000_1, .int .i64 x299001_1, .int .i64 x299002_1, .int .i64 x299003_1]) ?_ 0 _ rfl; (with_reducible repeat (first | refine blk_drewN ?_ _ | refine blk_drew ?_ | refine blk_alloc ?_ _)); exact BK298.out) hg (Kd.Q_away HO_293002.out (fun _ hk => hk))); have n3_ := Aside0.mk (IsS82.grownF HI0.out (by repeat (first | (with_reducible first | exact HI0.out | apply IsS82.alloc | apply IsS82.drewN | apply IsS82.drew | apply IsS82.set_1 | refine IsS82.far ?_ NB0_287.out _ | refine IsS82.far ?_ NB0_292.out _ | refine IsS82.far ?_ NB0_298.out _) | exact HI0.out)) hg (IsS82.own_neQ HI0.out HO_293002.out (by decide))); have n4_ := Aside0.mk (below_weaken (by repeat (first | (with_reducible first | exact HB.out | apply below_alloc | apply pw_below_drewN | apply below_drew1 | refine below_set ?_ (IsS82.ge HI0.out) | refine below_set ?_ GE287.out | refine below_set ?_ GE292.out | refine below_set ?_ GE298.out) | exact HB.out)) HL.out hb); have n5_ := Aside0.mk (KeepBut.trans (by repeat (first | (with_reducible first | exact HK.out | apply KeepBut.set_ | apply keep_drewN | apply keep_drew | apply keep_alloc | refine keep_far ?_ GW287.out _ | refine keep_far ?_ GW292.out _ | refine keep_far ?_ GW298.out _) | exact HK.out)) (KeepBut.of_grown hg g) (Kd.Q_base2 HO_293002.out)); have n6_ := Aside0.mk (ho); clear BK287; clear BK292; clear BK298; clear HI0; clear HB; clear HK; clear HO_293002; have BK287 := n0_; have BK292 := n1_; have BK298 := n2_; have HI0 := n3_; have HB := n4_; have HK := n5_; have HO308 := n6_; clear n0_ n1_ n2_ n3_ n4_ n5_ n6_; clear ho hb hg hat; obtain ⟨Ao35, co35, eo35, _⟩ := Kd.Q_slice HO308.out; subst eo35; have hcz36_0 : w34.cell? ⟨gb292, 0, none⟩ = some (.int .i64 (wrap64 (1 + t288))) := (blk_cell BK292.out 0).trans rfl; have hcz36_1 : w34.cell? ⟨gb292, 1, none⟩ = some (.int .i64 (wrap64 (1 + t290))) := (blk_cell BK292.out 1).trans rfl; have hcz36_2 : w34.cell? ⟨gb292, 2, none⟩ = some (u293002) := (blk_cell BK292.out 2).trans rfl; have hfz36_0 := blk_frozen BK292.out 0; have hfz36_1 := blk_frozen BK292.out 1; have hfz36_2 := blk_frozen BK292.out 2))
      go_roundg k1
      case measure => have := HK1.out; omega
      case rel => exact ⟨(wrap64 (x7_1 + 1)), (t305), (y306), (t301), (t302), (t303), (t304), (.slice Ao35 y306.length co35), (by first | rfl | (simp; done) | (simp [*]; done)), H', ⟨by have := HK1.out; omega⟩, ⟨by (with_reducible repeat (first | apply Kd.Q_alloc | apply Kd.Q_drewN | apply Kd.Q_drew)); exact Kd.Q_mono (Kd.Q_far (p := ⟨gb292, 2, none⟩) (Kd.Q_types HO308.out BK292.out (by decide)) (fun _ hk => hk.2) (.slice Ao35 y306.length co35)) (fun _ hk => hk.1)⟩, ⟨by (with_reducible repeat (first | refine blk_drewN ?_ _ | refine blk_drew ?_ | refine blk_alloc ?_ _)); refine blk_far ?_ NB287_292.out _; (with_reducible repeat (first | refine blk_drewN ?_ _ | refine blk_drew ?_ | refine blk_alloc ?_ _)); exact BK287.out⟩, ⟨by (with_reducible repeat (first | refine blk_drewN ?_ _ | refine blk_drew ?_ | refine blk_alloc ?_ _)); refine blk_put (cs := #[.int .i64 (wrap64 (1 + t288)), .int .i64 (wrap64 (1 + t290)), u293002]) ?_ 2 _ rfl; (with_reducible repeat (first | refine blk_drewN ?_ _ | refine blk_drew ?_ | refine blk_alloc ?_ _)); exact BK292.out⟩, ⟨by (with_reducible repeat (first | refine blk_drewN ?_ _ | refine blk_drew ?_ | refine blk_alloc ?_ _)); refine blk_far ?_ NB298_292.out _; (with_reducible repeat (first | refine blk_drewN ?_ _ | refine blk_drew ?_ | refine blk_alloc ?_ _)); exact BK298.out⟩, ⟨by repeat (first | (with_reducible first | exact HI0.out | apply IsS82.alloc | apply IsS82.drewN | apply IsS82.drew | apply IsS82.set_1 | refine IsS82.far ?_ NB0_287.out _ | refine IsS82.far ?_ NB0_292.out _ | refine IsS82.far ?_ NB0_298.out _) | exact HI0.out)⟩, ⟨by repeat (first | (with_reducible first | exact HK.out | apply KeepBut.set_ | apply keep_drewN | apply keep_drew | apply keep_alloc | refine keep_far ?_ GW287.out _ | refine keep_far ?_ GW292.out _ | refine keep_far ?_ GW298.out _) | exact HK.out)⟩, ⟨by repeat (first | (with_reducible first | exact HB.out | apply below_alloc | apply pw_below_drewN | apply below_drew1 | refine below_set ?_ (IsS82.ge HI0.out) | refine below_set ?_ GE287.out | refine below_set ?_ GE292.out | refine below_set ?_ GE298.out) | exact HB.out)⟩⟩
     ·rw [if_neg c23] at H
      exact absurd H (by simp)
    ·rw [if_neg c21] at H
     have c21b0 : decide (0 < t299) = false := decide_eq_false c21
     clear c21
     by_cases c37 : x293002_1.length < 4398046511104
     ·rw [if_pos c37] at H
      have LMc37 := Aside0.mk c37
      clear c37
      obtain ⟨y309, hy309⟩ : ∃ y_ : List (S39), y_ = (x293002_1 ++ [(⟨x299000_1, x299001_1, x299002_1, x299003_1⟩ : S39)]) := ⟨_, rfl⟩
      replace H : (spec_l20Ras.l0 k1 a1 (wrap64 (x7_1 + 1)) s0_0 t300 (wrap64 (1 + t288)) (wrap64 (1 + t290)) y309 x299000_1 x299001_1 x299002_1 x299003_1) = some (r1, r2, r3, r4) := by first | (rw [hy309]; with_reducible exact H) | (have H2_ := (Option.bind_some _ _).symm.trans H; rw [hy309]; with_reducible exact H2_) | (have H2_ := (Option.bind_some _ _).symm.trans H; with_reducible exact H2_) | with_reducible exact H | (rw [hy309]; exact H) | exact H
      have Ny309 := Aside0.mk hy309
      clear hy309
      have H' := Aside0.mk H
      clear H
      have hnb38 := NB292_287.out
      have hnc38 := NB287_292.out
      have hnb39 := NB292_298.out
      have hnc39 := NB298_292.out
      have hnb40 := NB292_0.out
      have hnc40 := NB0_292.out
      have hcz41_0 : wr.cell? ⟨gb292, 0, none⟩ = some (.int .i64 (wrap64 (1 + t288))) := (blk_cell BK292.out 0).trans rfl
      have hcz41_1 : wr.cell? ⟨gb292, 1, none⟩ = some (.int .i64 (wrap64 (1 + t290))) := (blk_cell BK292.out 1).trans rfl
      have hcz41_2 : wr.cell? ⟨gb292, 2, none⟩ = some (u293002) := (blk_cell BK292.out 2).trans rfl
      have hfz41_0 := blk_frozen BK292.out 0
      have hfz41_1 := blk_frozen BK292.out 1
      have hfz41_2 := blk_frozen BK292.out 2
      go_wp2_with (first | ((with_reducible refine gate_callee (f := 52) rfl ?_); refine goesL_ (some 27) rfl rfl Try.func52 (by kernel_rfl) rfl #[.pointer (some ⟨g, 0, none⟩), .int .i64 3] rfl (by (try simp only [List.map_toArray, List.map_cons, List.map_nil]); first | done | rfl | (simp only [List.length_drop, List.length_take]; rfl)) ?_; (with_reducible refine (spec_l20Rd_pick.calls k1 g s0_0 x1001_1 3 t299 t300 w0 _ ?side1 ?side2 A20.out).mono ?_); (case side1 => repeat (first | (with_reducible first | exact HI0.out | apply IsS82.alloc | apply IsS82.drewN | apply IsS82.drew | apply IsS82.set_1 | refine IsS82.far ?_ NB0_287.out _ | refine IsS82.far ?_ NB0_292.out _ | refine IsS82.far ?_ NB0_298.out _) | exact HI0.out)); (case side2 => repeat (first | (with_reducible first | exact HB.out | apply below_alloc | apply pw_below_drewN | apply below_drew1 | refine below_set ?_ (IsS82.ge HI0.out) | refine below_set ?_ GE287.out | refine below_set ?_ GE292.out | refine below_set ?_ GE298.out) | exact HB.out)); rintro e w42 ⟨rfl, hi, hb, hk⟩; refine ⟨_, rfl, ?_⟩; have n0_ := Aside0.mk (Kd.Q_mono (Kd.Q_keep (IsS82.apartQ (show IsS82 w0 _ g s0_0 x1001_1 from by repeat (first | (with_reducible first | exact HI0.out | apply IsS82.alloc | apply IsS82.drewN | apply IsS82.drew | apply IsS82.set_1 | refine IsS82.far ?_ NB0_287.out _ | refine IsS82.far ?_ NB0_292.out _ | refine IsS82.far ?_ NB0_298.out _) | exact HI0.out)) (by (with_reducible repeat (first | apply Kd.Q_alloc | apply Kd.Q_drewN | apply Kd.Q_drew)); exact HO_293002.out) (by decide)) hk (fun _ h => h.2)) (fun _ h => h.1)); have n1_ := Aside0.mk (KeepBut.blk hk (g' := gb287) (o := .cells #[.int .i64 0, .int .i64 0, .slice none 0 0] 36 (0, 0)) (by (with_reducible repeat (first | refine blk_drewN ?_ _ | refine blk_drew ?_ | refine blk_alloc ?_ _)); exact BK287.out) NB287_0.out (by simp)); have n2_ := Aside0.mk (KeepBut.blk hk (g' := gb292) (o := .cells #[.int .i64 (wrap64 (1 + t288)), .int .i64 (wrap64 (1 + t290)), u293002] 36 (0, 0)) (by (with_reducible repeat (first | refine blk_drewN ?_ _ | refine blk_drew ?_ | refine blk_alloc ?_ _)); exact BK292.out) NB292_0.out (by simp)); have n3_ := Aside0.mk (KeepBut.blk hk (g' := gb298) (o := .cells #[.int .i64 x299000_1, .int .i64 x299001_1, .int .i64 x299002_1, .int .i64 x299003_1] 39 (0, 0)) (by (with_reducible repeat (first | refine blk_drewN ?_ _ | refine blk_drew ?_ | refine blk_alloc ?_ _)); exact BK298.out) NB298_0.out (by simp)); have n4_ := Aside0.mk (KeepBut.trans (by repeat (first | (with_reducible first | exact HK.out | apply KeepBut.set_ | apply keep_drewN | apply keep_drew | apply keep_alloc | refine keep_far ?_ GW287.out _ | refine keep_far ?_ GW292.out _ | refine keep_far ?_ GW298.out _) | exact HK.out)) hk (.inl rfl)); have n5_ := Aside0.mk (hb); have n6_ := Aside0.mk (hi); clear HO_293002; clear BK287; clear BK292; clear BK298; clear HK; clear HB; clear HI0; have HO_293002 := n0_; have BK287 := n1_; have BK292 := n2_; have BK298 := n3_; have HK := n4_; have HB := n5_; have HI0 := n6_; clear n0_ n1_ n2_ n3_ n4_ n5_ n6_; (try clear hb); (try clear hb2); (try clear hk); (try clear hi); have hcz43_0 : w42.cell? ⟨gb292, 0, none⟩ = some (.int .i64 (wrap64 (1 + t288))) := (blk_cell BK292.out 0).trans rfl; have hcz43_1 : w42.cell? ⟨gb292, 1, none⟩ = some (.int .i64 (wrap64 (1 + t290))) := (blk_cell BK292.out 1).trans rfl; have hcz43_2 : w42.cell? ⟨gb292, 2, none⟩ = some (u293002) := (blk_cell BK292.out 2).trans rfl; have hfz43_0 := blk_frozen BK292.out 0; have hfz43_1 := blk_frozen BK292.out 1; have hfz43_2 := blk_frozen BK292.out 2; have hnb44 := NB298_287.out; have hnc44 := NB287_298.out; have hnb45 := NB298_0.out; have hnc45 := NB0_298.out; have hcz46_0 : w42.cell? ⟨gb298, 0, none⟩ = some (.int .i64 x299000_1) := (blk_cell BK298.out 0).trans rfl; have hcz46_1 : w42.cell? ⟨gb298, 1, none⟩ = some (.int .i64 x299001_1) := (blk_cell BK298.out 1).trans rfl; have hcz46_2 : w42.cell? ⟨gb298, 2, none⟩ = some (.int .i64 x299002_1) := (blk_cell BK298.out 2).trans rfl; have hcz46_3 : w42.cell? ⟨gb298, 3, none⟩ = some (.int .i64 x299003_1) := (blk_cell BK298.out 3).trans rfl; have hfz46_0 := blk_frozen BK298.out 0; have hfz46_1 := blk_frozen BK298.out 1; have hfz46_2 := blk_frozen BK298.out 2; have hfz46_3 := blk_frozen BK298.out 3) | ((with_reducible refine gate_builtin (b := .append) (xs := #[.tmp 32, .tmp 34]) rfl ?_); at_builtin; refine Kd.Q_append k39 w.heap.size rfl (.tmp 32) (.tmp 34) 34 39 (.agg #[(.int .i64 0), (.int .i64 0), (.int .i64 0), (.int .i64 0)]) 32 rfl Try.underlying34 info39 rfl (by decide) (by omega) u293002 x293002_1 (⟨x299000_1, x299001_1, x299002_1, x299003_1⟩ : S39) [.int .i64 x299000_1, .int .i64 x299001_1, .int .i64 x299002_1, .int .i64 x299003_1] (fun k_ => k_ ≠ gb298) (fun _ => False) rfl rfl ?aP (fun _ hk => hk.elim) ?aF ?aO (Below.refl _ _) ?aS ?aL ?_; (case aP => exact k39_mkM _ _ _ (⟨x299000_1, x299001_1, x299002_1, x299003_1⟩ : S39)); (case aF => exact (fun k_ hk => Kd.freshB (g := gb298) (o := .cells #[.int .i64 x299000_1, .int .i64 x299001_1, .int .i64 x299002_1, .int .i64 x299003_1] 39 (0, 0)) (by (with_reducible repeat (first | refine blk_drewN ?_ _ | refine blk_drew ?_ | refine blk_alloc ?_ _)); exact BK298.out) k_ hk)); (case aO => exact (by (with_reducible repeat (first | apply Kd.Q_alloc | apply Kd.Q_drewN | apply Kd.Q_drew)); exact HO_293002.out)); (case aS => exact (keep_size (w := w) (g := g) (row := none) (by repeat (first | (with_reducible first | exact HK.out | apply KeepBut.set_ | apply keep_drewN | apply keep_drew | apply keep_alloc | refine keep_far ?_ GW287.out _ | refine keep_far ?_ GW292.out _ | refine keep_far ?_ GW298.out _) | exact HK.out)))); (case aL => have := LMc37.out; omega); intro v310 w47 ho hb hg hat; rw [← Ny309.out] at ho; have n0_ := Aside0.mk (blk_grown (g := gb287) (o := .cells #[.int .i64 0, .int .i64 0, .slice none 0 0] 36 (0, 0)) (by (with_reducible repeat (first | refine blk_drewN ?_ _ | refine blk_drew ?_ | refine blk_alloc ?_ _)); exact BK287.out) hg (Kd.Q_ne HO_293002.out BK287.out (by decide))); have n1_ := Aside0.mk (blk_grown (g := gb292) (o := .cells #[.int .i64 (wrap64 (1 + t288)), .int .i64 (wrap64 (1 + t290)), u293002] 36 (0, 0)) (by (with_reducible repeat (first | refine blk_drewN ?_ _ | refine blk_drew ?_ | refine blk_alloc ?_ _)); exact BK292.out) hg (Kd.Q_ne HO_293002.out BK292.out (by decide))); have n2_ := Aside0.mk (blk_grown (g := gb298) (o := .cells #[.int .i64 x299000_1, .int .i64 x299001_1, .int .i64 x299002_1, .int .i64 x299003_1] 39 (0, 0)) (by (with_reducible repeat (first | refine blk_drewN ?_ _ | refine blk_drew ?_ | refine blk_alloc ?_ _)); exact BK298.out) hg (Kd.Q_away HO_293002.out (fun _ hk => hk))); have n3_ := Aside0.mk (IsS82.grownF HI0.out (by repeat (first | (with_reducible first | exact HI0.out | apply IsS82.alloc | apply IsS82.drewN | apply IsS82.drew | apply IsS82.set_1 | refine IsS82.far ?_ NB0_287.out _ | refine IsS82.far ?_ NB0_292.out _ | refine IsS82.far ?_ NB0_298.out _) | exact HI0.out)) hg (IsS82.own_neQ HI0.out HO_293002.out (by decide))); have n4_ := Aside0.mk (below_weaken (by repeat (first | (with_reducible first | exact HB.out | apply below_alloc | apply pw_below_drewN | apply below_drew1 | refine below_set ?_ (IsS82.ge HI0.out) | refine below_set ?_ GE287.out | refine below_set ?_ GE292.out | refine below_set ?_ GE298.out) | exact HB.out)) HL.out hb); have n5_ := Aside0.mk (KeepBut.trans (by repeat (first | (with_reducible first | exact HK.out | apply KeepBut.set_ | apply keep_drewN | apply keep_drew | apply keep_alloc | refine keep_far ?_ GW287.out _ | refine keep_far ?_ GW292.out _ | refine keep_far ?_ GW298.out _) | exact HK.out)) (KeepBut.of_grown hg g) (Kd.Q_base2 HO_293002.out)); have n6_ := Aside0.mk (ho); clear BK287; clear BK292; clear BK298; clear HI0; clear HB; clear HK; clear HO_293002; have BK287 := n0_; have BK292 := n1_; have BK298 := n2_; have HI0 := n3_; have HB := n4_; have HK := n5_; have HO311 := n6_; clear n0_ n1_ n2_ n3_ n4_ n5_ n6_; clear ho hb hg hat; obtain ⟨Ao48, co48, eo48, _⟩ := Kd.Q_slice HO311.out; subst eo48; have hcz49_0 : w47.cell? ⟨gb292, 0, none⟩ = some (.int .i64 (wrap64 (1 + t288))) := (blk_cell BK292.out 0).trans rfl; have hcz49_1 : w47.cell? ⟨gb292, 1, none⟩ = some (.int .i64 (wrap64 (1 + t290))) := (blk_cell BK292.out 1).trans rfl; have hcz49_2 : w47.cell? ⟨gb292, 2, none⟩ = some (u293002) := (blk_cell BK292.out 2).trans rfl; have hfz49_0 := blk_frozen BK292.out 0; have hfz49_1 := blk_frozen BK292.out 1; have hfz49_2 := blk_frozen BK292.out 2))
      go_roundg k1
      case measure => have := HK1.out; omega
      case rel => exact ⟨(wrap64 (x7_1 + 1)), (t300), (y309), (x299000_1), (x299001_1), (x299002_1), (x299003_1), (.slice Ao48 y309.length co48), (by first | rfl | (simp; done) | (simp [*]; done)), H', ⟨by have := HK1.out; omega⟩, ⟨by (with_reducible repeat (first | apply Kd.Q_alloc | apply Kd.Q_drewN | apply Kd.Q_drew)); exact Kd.Q_mono (Kd.Q_far (p := ⟨gb292, 2, none⟩) (Kd.Q_types HO311.out BK292.out (by decide)) (fun _ hk => hk.2) (.slice Ao48 y309.length co48)) (fun _ hk => hk.1)⟩, ⟨by (with_reducible repeat (first | refine blk_drewN ?_ _ | refine blk_drew ?_ | refine blk_alloc ?_ _)); refine blk_far ?_ NB287_292.out _; (with_reducible repeat (first | refine blk_drewN ?_ _ | refine blk_drew ?_ | refine blk_alloc ?_ _)); exact BK287.out⟩, ⟨by (with_reducible repeat (first | refine blk_drewN ?_ _ | refine blk_drew ?_ | refine blk_alloc ?_ _)); refine blk_put (cs := #[.int .i64 (wrap64 (1 + t288)), .int .i64 (wrap64 (1 + t290)), u293002]) ?_ 2 _ rfl; (with_reducible repeat (first | refine blk_drewN ?_ _ | refine blk_drew ?_ | refine blk_alloc ?_ _)); exact BK292.out⟩, ⟨by (with_reducible repeat (first | refine blk_drewN ?_ _ | refine blk_drew ?_ | refine blk_alloc ?_ _)); refine blk_far ?_ NB298_292.out _; (with_reducible repeat (first | refine blk_drewN ?_ _ | refine blk_drew ?_ | refine blk_alloc ?_ _)); exact BK298.out⟩, ⟨by repeat (first | (with_reducible first | exact HI0.out | apply IsS82.alloc | apply IsS82.drewN | apply IsS82.drew | apply IsS82.set_1 | refine IsS82.far ?_ NB0_287.out _ | refine IsS82.far ?_ NB0_292.out _ | refine IsS82.far ?_ NB0_298.out _) | exact HI0.out)⟩, ⟨by repeat (first | (with_reducible first | exact HK.out | apply KeepBut.set_ | apply keep_drewN | apply keep_drew | apply keep_alloc | refine keep_far ?_ GW287.out _ | refine keep_far ?_ GW292.out _ | refine keep_far ?_ GW298.out _) | exact HK.out)⟩, ⟨by repeat (first | (with_reducible first | exact HB.out | apply below_alloc | apply pw_below_drewN | apply below_drew1 | refine below_set ?_ (IsS82.ge HI0.out) | refine below_set ?_ GE287.out | refine below_set ?_ GE292.out | refine below_set ?_ GE298.out) | exact HB.out)⟩⟩
     ·rw [if_neg c37] at H
      exact absurd H (by simp)
   ·rw [if_neg c19] at H
    have c19b0 : decide (x7_1 < (wrap64 ((wrap64 (1 + t288)) * (wrap64 (1 + t290))))) = false := decide_eq_false c19
    clear c19
    replace H := Option.bind_eq_some_iff.mp H
    obtain ⟨⟨t312, t313⟩, A500, H⟩ := H
    replace H : (if t312 = true then ((spec_l20Rd_pick.f k1 s0_0 t313 4).bind fun bt314 => (if bt314.1 = 0 then ((some (([0, (-1), 7, wrap64 ((wrap64 (1 + t288)) + 1)] : List Int) : List Int)).bind fun y316 => ((spec_l20Rd_pick.f k1 s0_0 bt314.2 4).bind fun bt319 => (if 0 ≤ bt319.1 then (if bt319.1 < (y316.length : Int) then (some (rd y316 bt319.1, (wrap64 (1 + t290)), x293002_1, bt319.2)) else (none)) else (none)))) else (if bt314.1 = 1 then ((some (([0, 7] : List Int) : List Int)).bind fun y322 => ((spec_l20Rd_pick.f k1 s0_0 bt314.2 2).bind fun bt325 => (if 0 ≤ bt325.1 then (if bt325.1 < (y322.length : Int) then (some ((wrap64 (1 + t288)), rd y322 bt325.1, x293002_1, bt325.2)) else (none)) else (none)))) else (if bt314.1 = 2 then (if 1 ≤ (x293002_1.length : Int) then (some ((wrap64 (1 + t288)), (wrap64 (1 + t290)), (x293002_1.drop (1 : Int).toNat), bt314.2)) else (none)) else ((spec_l20Rd_pick.f k1 s0_0 bt314.2 (x293002_1.length : Int)).bind fun bt331 => ((some (([(-1), 256] : List Int) : List Int)).bind fun y333 => ((spec_l20Rd_pick.f k1 s0_0 bt331.2 2).bind fun bt336 => (if 0 ≤ bt336.1 then (if bt336.1 < (y333.length : Int) then (if 0 ≤ bt331.1 then (if bt331.1 < (x293002_1.length : Int) then (some ((wrap64 (1 + t288)), (wrap64 (1 + t290)), (x293002_1.set (bt331.1 : Int).toNat (⟨(rd_T39 x293002_1 bt331.1).f0, rd y333 bt336.1, (rd_T39 x293002_1 bt331.1).f2, (rd_T39 x293002_1 bt331.1).f3⟩ : S39)), bt336.2)) else (none)) else (none)) else (none)) else (none))))))))) else (some ((wrap64 (1 + t288)), (wrap64 (1 + t290)), x293002_1, t313))) = some (r1, r2, r3, r4) := H
    have A50 := Aside0.mk A500
    clear A500
    by_cases c51 : t312 = true
    ·subst c51
     have H1 : ((spec_l20Rd_pick.f k1 s0_0 t313 4).bind fun bt314 => (if bt314.1 = 0 then ((some (([0, (-1), 7, wrap64 ((wrap64 (1 + t288)) + 1)] : List Int) : List Int)).bind fun y316 => ((spec_l20Rd_pick.f k1 s0_0 bt314.2 4).bind fun bt319 => (if 0 ≤ bt319.1 then (if bt319.1 < (y316.length : Int) then (some (rd y316 bt319.1, (wrap64 (1 + t290)), x293002_1, bt319.2)) else (none)) else (none)))) else (if bt314.1 = 1 then ((some (([0, 7] : List Int) : List Int)).bind fun y322 => ((spec_l20Rd_pick.f k1 s0_0 bt314.2 2).bind fun bt325 => (if 0 ≤ bt325.1 then (if bt325.1 < (y322.length : Int) then (some ((wrap64 (1 + t288)), rd y322 bt325.1, x293002_1, bt325.2)) else (none)) else (none)))) else (if bt314.1 = 2 then (if 1 ≤ (x293002_1.length : Int) then (some ((wrap64 (1 + t288)), (wrap64 (1 + t290)), (x293002_1.drop (1 : Int).toNat), bt314.2)) else (none)) else ((spec_l20Rd_pick.f k1 s0_0 bt314.2 (x293002_1.length : Int)).bind fun bt331 => ((some (([(-1), 256] : List Int) : List Int)).bind fun y333 => ((spec_l20Rd_pick.f k1 s0_0 bt331.2 2).bind fun bt336 => (if 0 ≤ bt336.1 then (if bt336.1 < (y333.length : Int) then (if 0 ≤ bt331.1 then (if bt331.1 < (x293002_1.length : Int) then (some ((wrap64 (1 + t288)), (wrap64 (1 + t290)), (x293002_1.set (bt331.1 : Int).toNat (⟨(rd_T39 x293002_1 bt331.1).f0, rd y333 bt336.1, (rd_T39 x293002_1 bt331.1).f2, (rd_T39 x293002_1 bt331.1).f3⟩ : S39)), bt336.2)) else (none)) else (none)) else (none)) else (none))))))))) = some (r1, r2, r3, r4) := by rw [if_pos rfl] at H; exact H
     clear H
     have H := H1
     clear H1
     replace H := Option.bind_eq_some_iff.mp H
     obtain ⟨⟨t314, t315⟩, A520, H⟩ := H
     replace H : (if t314 = 0 then ((some (([0, (-1), 7, wrap64 ((wrap64 (1 + t288)) + 1)] : List Int) : List Int)).bind fun y316 => ((spec_l20Rd_pick.f k1 s0_0 t315 4).bind fun bt319 => (if 0 ≤ bt319.1 then (if bt319.1 < (y316.length : Int) then (some (rd y316 bt319.1, (wrap64 (1 + t290)), x293002_1, bt319.2)) else (none)) else (none)))) else (if t314 = 1 then ((some (([0, 7] : List Int) : List Int)).bind fun y322 => ((spec_l20Rd_pick.f k1 s0_0 t315 2).bind fun bt325 => (if 0 ≤ bt325.1 then (if bt325.1 < (y322.length : Int) then (some ((wrap64 (1 + t288)), rd y322 bt325.1, x293002_1, bt325.2)) else (none)) else (none)))) else (if t314 = 2 then (if 1 ≤ (x293002_1.length : Int) then (some ((wrap64 (1 + t288)), (wrap64 (1 + t290)), (x293002_1.drop (1 : Int).toNat), t315)) else (none)) else ((spec_l20Rd_pick.f k1 s0_0 t315 (x293002_1.length : Int)).bind fun bt331 => ((some (([(-1), 256] : List Int) : List Int)).bind fun y333 => ((spec_l20Rd_pick.f k1 s0_0 bt331.2 2).bind fun bt336 => (if 0 ≤ bt336.1 then (if bt336.1 < (y333.length : Int) then (if 0 ≤ bt331.1 then (if bt331.1 < (x293002_1.length : Int) then (some ((wrap64 (1 + t288)), (wrap64 (1 + t290)), (x293002_1.set (bt331.1 : Int).toNat (⟨(rd_T39 x293002_1 bt331.1).f0, rd y333 bt336.1, (rd_T39 x293002_1 bt331.1).f2, (rd_T39 x293002_1 bt331.1).f3⟩ : S39)), bt336.2)) else (none)) else (none)) else (none)) else (none)))))))) = some (r1, r2, r3, r4) := H
     have A52 := Aside0.mk A520
     clear A520
     by_cases c53 : t314 = 0
     ·rw [if_pos c53] at H
      have c53b0 : (t314 == 0) = true := beq_iff_eq.mpr c53
      have c53b1 : (t314 != 0) = false := bne_eq_false_iff_eq.mpr c53
      clear c53
      obtain ⟨y316, hy316⟩ : ∃ y_ : List Int, y_ = (([0, (-1), 7, wrap64 ((wrap64 (1 + t288)) + 1)] : List Int)) := ⟨_, rfl⟩
      replace H : ((spec_l20Rd_pick.f k1 s0_0 t315 4).bind fun bt319 => (if 0 ≤ bt319.1 then (if bt319.1 < (y316.length : Int) then (some (rd y316 bt319.1, (wrap64 (1 + t290)), x293002_1, bt319.2)) else (none)) else (none))) = some (r1, r2, r3, r4) := by first | (rw [hy316]; with_reducible exact H) | (have H2_ := (Option.bind_some _ _).symm.trans H; rw [hy316]; with_reducible exact H2_) | (have H2_ := (Option.bind_some _ _).symm.trans H; with_reducible exact H2_) | with_reducible exact H | (rw [hy316]; exact H) | exact H
      have Ny316 := Aside0.mk hy316
      clear hy316
      replace H := Option.bind_eq_some_iff.mp H
      obtain ⟨⟨t319, t320⟩, A540, H⟩ := H
      replace H : (if 0 ≤ t319 then (if t319 < (y316.length : Int) then (some (rd y316 t319, (wrap64 (1 + t290)), x293002_1, t320)) else (none)) else (none)) = some (r1, r2, r3, r4) := H
      have A54 := Aside0.mk A540
      clear A540
      by_cases c55 : 0 ≤ t319
      ·rw [if_pos c55] at H
       have c55b0 : decide (0 ≤ t319) = true := decide_eq_true c55
       clear c55
       by_cases c56 : t319 < (y316.length : Int)
       ·rw [if_pos c56] at H
        have c56b0 : decide (t319 < (y316.length : Int)) = true := decide_eq_true c56
        clear c56
        simp only [Option.some.injEq, Prod.mk.injEq] at H
        obtain ⟨rfl, rfl, rfl, rfl⟩ := H
        have hnb57 := NB292_287.out
        have hnc57 := NB287_292.out
        have hnb58 := NB292_298.out
        have hnc58 := NB298_292.out
        have hnb59 := NB292_0.out
        have hnc59 := NB0_292.out
        have hcz60_0 : wr.cell? ⟨gb292, 0, none⟩ = some (.int .i64 (wrap64 (1 + t288))) := (blk_cell BK292.out 0).trans rfl
        have hcz60_1 : wr.cell? ⟨gb292, 1, none⟩ = some (.int .i64 (wrap64 (1 + t290))) := (blk_cell BK292.out 1).trans rfl
        have hcz60_2 : wr.cell? ⟨gb292, 2, none⟩ = some (u293002) := (blk_cell BK292.out 2).trans rfl
        have hfz60_0 := blk_frozen BK292.out 0
        have hfz60_1 := blk_frozen BK292.out 1
        have hfz60_2 := blk_frozen BK292.out 2
        try go_wp2_with (first | ((with_reducible refine gate_callee (f := 63) rfl ?_); refine goesL_ (some 39) rfl rfl Try.func63 (by kernel_rfl) rfl #[.pointer (some ⟨g, 0, none⟩), .int .i64 a1] rfl (by (try simp only [List.map_toArray, List.map_cons, List.map_nil]); first | done | rfl | (simp only [List.length_drop, List.length_take]; rfl)) ?_; (with_reducible refine (spec_l20Rd_odd.calls k1 g s0_0 x1001_1 a1 true t313 w0 _ ?side1 ?side2 A50.out).mono ?_); (case side1 => repeat (first | (with_reducible first | exact HI0.out | apply IsS82.alloc | apply IsS82.drewN | apply IsS82.drew | apply IsS82.set_1 | refine IsS82.far ?_ NB0_287.out _ | refine IsS82.far ?_ NB0_292.out _ | refine IsS82.far ?_ NB0_298.out _) | exact HI0.out)); (case side2 => repeat (first | (with_reducible first | exact HB.out | apply below_alloc | apply pw_below_drewN | apply below_drew1 | refine below_set ?_ (IsS82.ge HI0.out) | refine below_set ?_ GE287.out | refine below_set ?_ GE292.out | refine below_set ?_ GE298.out) | exact HB.out)); rintro e w61 ⟨rfl, hi, hb, hk⟩; refine ⟨_, rfl, ?_⟩; have n0_ := Aside0.mk (Kd.Q_mono (Kd.Q_keep (IsS82.apartQ (show IsS82 w0 _ g s0_0 x1001_1 from by repeat (first | (with_reducible first | exact HI0.out | apply IsS82.alloc | apply IsS82.drewN | apply IsS82.drew | apply IsS82.set_1 | refine IsS82.far ?_ NB0_287.out _ | refine IsS82.far ?_ NB0_292.out _ | refine IsS82.far ?_ NB0_298.out _) | exact HI0.out)) (by (with_reducible repeat (first | apply Kd.Q_alloc | apply Kd.Q_drewN | apply Kd.Q_drew)); exact HO_293002.out) (by decide)) hk (fun _ h => h.2)) (fun _ h => h.1)); have n1_ := Aside0.mk (KeepBut.blk hk (g' := gb287) (o := .cells #[.int .i64 0, .int .i64 0, .slice none 0 0] 36 (0, 0)) (by (with_reducible repeat (first | refine blk_drewN ?_ _ | refine blk_drew ?_ | refine blk_alloc ?_ _)); exact BK287.out) NB287_0.out (by simp)); have n2_ := Aside0.mk (KeepBut.blk hk (g' := gb292) (o := .cells #[.int .i64 (wrap64 (1 + t288)), .int .i64 (wrap64 (1 + t290)), u293002] 36 (0, 0)) (by (with_reducible repeat (first | refine blk_drewN ?_ _ | refine blk_drew ?_ | refine blk_alloc ?_ _)); exact BK292.out) NB292_0.out (by simp)); have n3_ := Aside0.mk (KeepBut.blk hk (g' := gb298) (o := .cells #[.int .i64 x299000_1, .int .i64 x299001_1, .int .i64 x299002_1, .int .i64 x299003_1] 39 (0, 0)) (by (with_reducible repeat (first | refine blk_drewN ?_ _ | refine blk_drew ?_ | refine blk_alloc ?_ _)); exact BK298.out) NB298_0.out (by simp)); have n4_ := Aside0.mk (KeepBut.trans (by repeat (first | (with_reducible first | exact HK.out | apply KeepBut.set_ | apply keep_drewN | apply keep_drew | apply keep_alloc | refine keep_far ?_ GW287.out _ | refine keep_far ?_ GW292.out _ | refine keep_far ?_ GW298.out _) | exact HK.out)) hk (.inl rfl)); have n5_ := Aside0.mk (hb); have n6_ := Aside0.mk (hi); clear HO_293002; clear BK287; clear BK292; clear BK298; clear HK; clear HB; clear HI0; have HO_293002 := n0_; have BK287 := n1_; have BK292 := n2_; have BK298 := n3_; have HK := n4_; have HB := n5_; have HI0 := n6_; clear n0_ n1_ n2_ n3_ n4_ n5_ n6_; (try clear hb); (try clear hb2); (try clear hk); (try clear hi)) | ((with_reducible refine gate_callee (f := 52) rfl ?_); refine goesL_ (some 41) rfl rfl Try.func52 (by kernel_rfl) rfl #[.pointer (some ⟨g, 0, none⟩), .int .i64 4] rfl (by (try simp only [List.map_toArray, List.map_cons, List.map_nil]); first | done | rfl | (simp only [List.length_drop, List.length_take]; rfl)) ?_; (with_reducible refine (spec_l20Rd_pick.calls k1 g s0_0 t313 4 t314 t315 w0 _ ?side1 ?side2 A52.out).mono ?_); (case side1 => repeat (first | (with_reducible first | exact HI0.out | apply IsS82.alloc | apply IsS82.drewN | apply IsS82.drew | apply IsS82.set_1 | refine IsS82.far ?_ NB0_287.out _ | refine IsS82.far ?_ NB0_292.out _ | refine IsS82.far ?_ NB0_298.out _) | exact HI0.out)); (case side2 => repeat (first | (with_reducible first | exact HB.out | apply below_alloc | apply pw_below_drewN | apply below_drew1 | refine below_set ?_ (IsS82.ge HI0.out) | refine below_set ?_ GE287.out | refine below_set ?_ GE292.out | refine below_set ?_ GE298.out) | exact HB.out)); rintro e w62 ⟨rfl, hi, hb, hk⟩; refine ⟨_, rfl, ?_⟩; have n0_ := Aside0.mk (Kd.Q_mono (Kd.Q_keep (IsS82.apartQ (show IsS82 w0 _ g s0_0 t313 from by repeat (first | (with_reducible first | exact HI0.out | apply IsS82.alloc | apply IsS82.drewN | apply IsS82.drew | apply IsS82.set_1 | refine IsS82.far ?_ NB0_287.out _ | refine IsS82.far ?_ NB0_292.out _ | refine IsS82.far ?_ NB0_298.out _) | exact HI0.out)) (by (with_reducible repeat (first | apply Kd.Q_alloc | apply Kd.Q_drewN | apply Kd.Q_drew)); exact HO_293002.out) (by decide)) hk (fun _ h => h.2)) (fun _ h => h.1)); have n1_ := Aside0.mk (KeepBut.blk hk (g' := gb287) (o := .cells #[.int .i64 0, .int .i64 0, .slice none 0 0] 36 (0, 0)) (by (with_reducible repeat (first | refine blk_drewN ?_ _ | refine blk_drew ?_ | refine blk_alloc ?_ _)); exact BK287.out) NB287_0.out (by simp)); have n2_ := Aside0.mk (KeepBut.blk hk (g' := gb292) (o := .cells #[.int .i64 (wrap64 (1 + t288)), .int .i64 (wrap64 (1 + t290)), u293002] 36 (0, 0)) (by (with_reducible repeat (first | refine blk_drewN ?_ _ | refine blk_drew ?_ | refine blk_alloc ?_ _)); exact BK292.out) NB292_0.out (by simp)); have n3_ := Aside0.mk (KeepBut.blk hk (g' := gb298) (o := .cells #[.int .i64 x299000_1, .int .i64 x299001_1, .int .i64 x299002_1, .int .i64 x299003_1] 39 (0, 0)) (by (with_reducible repeat (first | refine blk_drewN ?_ _ | refine blk_drew ?_ | refine blk_alloc ?_ _)); exact BK298.out) NB298_0.out (by simp)); have n4_ := Aside0.mk (KeepBut.trans (by repeat (first | (with_reducible first | exact HK.out | apply KeepBut.set_ | apply keep_drewN | apply keep_drew | apply keep_alloc | refine keep_far ?_ GW287.out _ | refine keep_far ?_ GW292.out _ | refine keep_far ?_ GW298.out _) | exact HK.out)) hk (.inl rfl)); have n5_ := Aside0.mk (hb); have n6_ := Aside0.mk (hi); clear HO_293002; clear BK287; clear BK292; clear BK298; clear HK; clear HB; clear HI0; have HO_293002 := n0_; have BK287 := n1_; have BK292 := n2_; have BK298 := n3_; have HK := n4_; have HB := n5_; have HI0 := n6_; clear n0_ n1_ n2_ n3_ n4_ n5_ n6_; (try clear hb); (try clear hb2); (try clear hk); (try clear hi)))
        have pi321 : (0 ≤ (t319 : Int)) = True := eq_true (of_decide_eq_true (by first | (with_reducible assumption) | assumption))
        have qi321 : (t319 < (y316.length : Int)) = True := eq_true (of_decide_eq_true (by first | (with_reducible assumption) | assumption))
        have n0_ := Aside0.mk (Kd.Q_drew HO_293002.out)
        have n1_ := Aside0.mk (blk_drew BK287.out)
        have n2_ := Aside0.mk (blk_drew BK292.out)
        have n3_ := Aside0.mk (blk_drew BK298.out)
        have n4_ := Aside0.mk (IsS82.drew HI0.out)
        have n5_ := Aside0.mk (keep_drew HK.out)
        have n6_ := Aside0.mk (below_drew1 HB.out)
        clear HO_293002
        clear BK287
        clear BK292
        clear BK298
        clear HI0
        clear HK
        clear HB
        have HO_293002 := n0_
        have BK287 := n1_
        have BK292 := n2_
        have BK298 := n3_
        have HI0 := n4_
        have HK := n5_
        have HB := n6_
        clear n0_ n1_ n2_ n3_ n4_ n5_ n6_
        refine start_ (n := 10) (S := fun w' => w'.cell? ⟨gb292, 0, none⟩ = some (.int .i64 (wrap64 (1 + t288))) ∧ w'.cell? ⟨gb292, 1, none⟩ = some (.int .i64 (wrap64 (1 + t290))) ∧ w'.cell? ⟨gb292, 2, none⟩ = some (u293002)) (ds := [9]) #[false, false, false, false, false, false, false, false, false, false] (by kernel_rfl) rfl rfl ⟨(blk_cell BK292.out 0).trans rfl, (blk_cell BK292.out 1).trans rfl, (blk_cell BK292.out 2).trans rfl⟩ (fun hHeld => ?_); refine with_tabW spec_l20Ras.tab13 spec_l20Ras.bits13 (fun HT_ HW_ => ?_)
        generalize w62.drew = w63 at HO_293002 BK287 BK292 BK298 HI0 HK HB hHeld ⊢
        refine pure_ (i := 0) (N := some 58) (v := ?_) (a' := ?_) #[true, false, false, false, false, false, false, false, false, false] rfl rfl (any_of HT_.out (by kernel_rfl)) (fun _ _ _ h => h) (Or.inl ⟨by rfl, ?_⟩) ?_ ?_
        rotate_left
        ·intro w'
         go_simp
         with_reducible rfl
        rotate_left
        ·simp only [Act.put, List.setIfInBounds_toArray, List.set_cons_zero, List.set_cons_succ, i64_w, i32_w]
         rfl
        refine pure_ (i := 4) (N := some 62) (v := ?_) (a' := ?_) #[true, false, false, false, true, false, false, false, false, false] rfl rfl (any_of HT_.out (by kernel_rfl)) (fun _ _ _ h => h) (Or.inl ⟨by rfl, ?_⟩) ?_ ?_
        rotate_left
        ·intro w'
         go_simp
         with_reducible rfl
        rotate_left
        ·simp only [Act.put, List.setIfInBounds_toArray, List.set_cons_zero, List.set_cons_succ, i64_w, i32_w]
         rfl
        refine take_ (i := 1) (N := some 59) (v := ?_) (a' := ?_) #[true, true, false, false, true, false, false, false, false, false] rfl rfl (take_ofW HT_.out HW_.out (by kernel_rfl)) (fun _ _ _ h => h) (Or.inl ⟨by rfl, ?_⟩) hHeld ?_ ?_
        rotate_left
        ·rintro w' ⟨s0, s1, s2⟩
         go_simp
         with_reducible rfl
        rotate_left
        ·simp only [Act.put, List.setIfInBounds_toArray, List.set_cons_zero, List.set_cons_succ, i64_w, i32_w]
         rfl
        refine pure_ (i := 2) (N := some 60) (v := ?_) (a' := ?_) #[true, true, true, false, true, false, false, false, false, false] rfl rfl (any_of HT_.out (by kernel_rfl)) (fun _ _ _ h => h) (Or.inl ⟨by rfl, ?_⟩) ?_ ?_
        rotate_left
        ·intro w'
         go_simp
         with_reducible rfl
        rotate_left
        ·simp only [Act.put, List.setIfInBounds_toArray, List.set_cons_zero, List.set_cons_succ, i64_w, i32_w]
         rfl
        refine join_ (σ := Value × Addr) 4 #[true, true, true, true, true, true, false, false, false, false] (fun s_ => [(61, s_.1), (63, .int .i64 t319)]) (fun s_ w' => (w'.cell? ⟨gb292, 0, none⟩ = some (.int .i64 (wrap64 (1 + t288))) ∧ w'.cell? ⟨gb292, 1, none⟩ = some (.int .i64 (wrap64 (1 + t290))) ∧ w'.cell? ⟨gb292, 2, none⟩ = some (u293002)) ∧ (Kd.R (Kd.int .i64) 3 w' w.heap.size (fun _ => True) s_.1 y316) ∧ (Kd.Q k39 39 w' w.heap.size (fun k_ => k_ ≠ gb298) u293002 x293002_1) ∧ (∃ c_, (s_.1 : Value) = .slice (some s_.2) y316.length c_) ∧ (w'.heap[gb287]? = some (.cells #[.int .i64 0, .int .i64 0, .slice none 0 0] 36 (0, 0))) ∧ (w'.heap[gb292]? = some (.cells #[.int .i64 (wrap64 (1 + t288)), .int .i64 (wrap64 (1 + t290)), u293002] 36 (0, 0))) ∧ (w'.heap[gb298]? = some (.cells #[.int .i64 x299000_1, .int .i64 x299001_1, .int .i64 x299002_1, .int .i64 x299003_1] 39 (0, 0))) ∧ (IsS82 w0 w' g s0_0 t320) ∧ (KeepBut w w' g none) ∧ (Below w0.heap.size w0 w')) ?_ ?_
        rotate_left
        ·intro hCont
         refine two_ (i := 3) (j := 5) (Ni := some 61) (Nj := some 63) #[true, true, true, true, true, false, false, false, false, false] #[true, true, true, false, true, true, false, false, false, false] rfl rfl rfl rfl (two_of HT_.out (by kernel_rfl)) (by decide) (by decide) (fun K hK => ?_) (fun K hK => ?_)
         ·skip
          refine Kd.R_lit_step (Kd.int .i64) _ 3 ?hg (N := 61) ?hd (xs := ([0, (-1), 7, wrap64 ((wrap64 (1 + t288)) + 1)] : List Int)) (inner := [.int .i64 0, .int .i64 (-1), .int .i64 7, .int .i64 (wrap64 ((wrap64 (1 + t288)) + 1))]) (ok := fun _ => True) (okp := fun _ => True) ?hr ?hp (fun _ hk => hk) trivial (Below.refl _ _) (Nat.le_refl _) (by simp) ?_; (case hd => rfl); (case hg => rfl); (case hr => first | (go_simp; done) | (go_simp; rfl)); (case hp => exact (Reps.one (show Kd.M (Kd.int .i64) _ _ _ 0 [.int .i64 0] from rfl) (Reps.one (show Kd.M (Kd.int .i64) _ _ _ (-1) [.int .i64 (-1)] from rfl) (Reps.one (show Kd.M (Kd.int .i64) _ _ _ 7 [.int .i64 7] from rfl) (Reps.one (show Kd.M (Kd.int .i64) _ _ _ (wrap64 ((wrap64 (1 + t288)) + 1)) [.int .i64 (wrap64 ((wrap64 (1 + t288)) + 1))] from rfl) (Reps.none _ _))))))
          intro v317 w64 ho65 hb hg_ hnew_
          clear hg_ hnew_
          (first | rw [← Ny316.out] at ho65 | (simp only [Int.reduceToNat] at ho65; rw [← Ny316.out] at ho65))
          have n0_ := Aside0.mk (Kd.Q_below (by (with_reducible repeat (first | apply Kd.Q_alloc | apply Kd.Q_drewN | apply Kd.Q_drew)); exact HO_293002.out) hb)
          have n1_ := Aside0.mk (Kd.R_lower ho65 (keep_size (w := w) (g := g) (row := none) (by repeat (first | (with_reducible first | exact HK.out | apply KeepBut.set_ | apply keep_drewN | apply keep_drew | apply keep_alloc | refine keep_far ?_ GW287.out _ | refine keep_far ?_ GW292.out _ | refine keep_far ?_ GW298.out _) | exact HK.out))))
          have n2_ := Aside0.mk (blk_below (g := gb287) (o := .cells #[.int .i64 0, .int .i64 0, .slice none 0 0] 36 (0, 0)) (by (with_reducible repeat (first | refine blk_drewN ?_ _ | refine blk_drew ?_ | refine blk_alloc ?_ _)); exact BK287.out) hb)
          have n3_ := Aside0.mk (blk_below (g := gb292) (o := .cells #[.int .i64 (wrap64 (1 + t288)), .int .i64 (wrap64 (1 + t290)), u293002] 36 (0, 0)) (by (with_reducible repeat (first | refine blk_drewN ?_ _ | refine blk_drew ?_ | refine blk_alloc ?_ _)); exact BK292.out) hb)
          have n4_ := Aside0.mk (blk_below (g := gb298) (o := .cells #[.int .i64 x299000_1, .int .i64 x299001_1, .int .i64 x299002_1, .int .i64 x299003_1] 39 (0, 0)) (by (with_reducible repeat (first | refine blk_drewN ?_ _ | refine blk_drew ?_ | refine blk_alloc ?_ _)); exact BK298.out) hb)
          have n5_ := Aside0.mk (IsS82.below (by repeat (first | (with_reducible first | exact HI0.out | apply IsS82.alloc | apply IsS82.drewN | apply IsS82.drew | apply IsS82.set_1 | refine IsS82.far ?_ NB0_287.out _ | refine IsS82.far ?_ NB0_292.out _ | refine IsS82.far ?_ NB0_298.out _) | exact HI0.out)) hb)
          have n6_ := Aside0.mk (KeepBut.trans (by repeat (first | (with_reducible first | exact HK.out | apply KeepBut.set_ | apply keep_drewN | apply keep_drew | apply keep_alloc | refine keep_far ?_ GW287.out _ | refine keep_far ?_ GW292.out _ | refine keep_far ?_ GW298.out _) | exact HK.out)) (KeepBut.of_below hb g none) (.inl rfl))
          have n7_ := Aside0.mk (below_step (by repeat (first | (with_reducible first | exact HB.out | apply below_alloc | apply pw_below_drewN | apply below_drew1 | refine below_set ?_ (IsS82.ge HI0.out) | refine below_set ?_ GE287.out | refine below_set ?_ GE292.out | refine below_set ?_ GE298.out) | exact HB.out)) hb)
          clear HO_293002
          clear BK287
          clear BK292
          clear BK298
          clear HI0
          clear HK
          clear HB
          have HO_293002 := n0_
          have HO318 := n1_
          have BK287 := n2_
          have BK292 := n3_
          have BK298 := n4_
          have HI0 := n5_
          have HK := n6_
          have HB := n7_
          clear n0_ n1_ n2_ n3_ n4_ n5_ n6_ n7_
          clear hb ho65
          obtain ⟨Ao66, co66, eo66⟩ := Kd.R_slice HO318.out
          subst eo66
          obtain ⟨ado66, fo66, _⟩ := Kd.at_int (Kd.R_reads' HO318.out).2.2 0 (by decide) (by rw [Ny316.out]; simp)
          cases fo66
          refine hK.out _ _ ⟨(blk_cell BK292.out 0).trans rfl, (blk_cell BK292.out 1).trans rfl, (blk_cell BK292.out 2).trans rfl⟩ (fun hHeld => ?_)
          clear hK K
          refine norm_ (a' := ?_) ?_ ?_
          rotate_left
          ·show Act.put _ (some 61) _ = _
           simp only [Act.put, List.setIfInBounds_toArray, List.set_cons_zero, List.set_cons_succ, i64_w, i32_w]
           rfl
          refine one_ (i := 5) (N := some 63) #[true, true, true, true, true, true, false, false, false, false] rfl rfl (one_of HT_.out (by kernel_rfl)) (by decide) (fun K hK => ?_)
          refine goes_ Try.func52 (by kernel_rfl) rfl #[.pointer (some ⟨g, 0, none⟩), .int .i64 4] (by rfl) rfl rfl (by (try simp only [List.map_toArray, List.map_cons, List.map_nil]); first | done | rfl | (simp only [List.length_drop, List.length_take]; rfl)) ?_
          with_reducible refine (spec_l20Rd_pick.calls k1 g s0_0 t315 4 t319 t320 w0 _ ?side1 ?side2 A54.out).mono ?_
          (case side1 => repeat (first | (with_reducible first | exact HI0.out | apply IsS82.alloc | apply IsS82.drewN | apply IsS82.drew | apply IsS82.set_1 | refine IsS82.far ?_ NB0_287.out _ | refine IsS82.far ?_ NB0_292.out _ | refine IsS82.far ?_ NB0_298.out _) | exact HI0.out))
          (case side2 => repeat (first | (with_reducible first | exact HB.out | apply below_alloc | apply pw_below_drewN | apply below_drew1 | refine below_set ?_ (IsS82.ge HI0.out) | refine below_set ?_ GE287.out | refine below_set ?_ GE292.out | refine below_set ?_ GE298.out) | exact HB.out))
          rintro e w67 ⟨rfl, hi, hb, hk⟩
          refine ⟨_, rfl, ?_⟩
          have n0_ := Aside0.mk (Kd.Q_mono (Kd.Q_keep (IsS82.apartQ (show IsS82 w0 _ g s0_0 t315 from by repeat (first | (with_reducible first | exact HI0.out | apply IsS82.alloc | apply IsS82.drewN | apply IsS82.drew | apply IsS82.set_1 | refine IsS82.far ?_ NB0_287.out _ | refine IsS82.far ?_ NB0_292.out _ | refine IsS82.far ?_ NB0_298.out _) | exact HI0.out)) (by (with_reducible repeat (first | apply Kd.Q_alloc | apply Kd.Q_drewN | apply Kd.Q_drew)); exact HO_293002.out) (by decide)) hk (fun _ h => h.2)) (fun _ h => h.1))
          have n1_ := Aside0.mk (KeepBut.blk hk (g' := gb287) (o := .cells #[.int .i64 0, .int .i64 0, .slice none 0 0] 36 (0, 0)) (by (with_reducible repeat (first | refine blk_drewN ?_ _ | refine blk_drew ?_ | refine blk_alloc ?_ _)); exact BK287.out) NB287_0.out (by simp))
          have n2_ := Aside0.mk (KeepBut.blk hk (g' := gb292) (o := .cells #[.int .i64 (wrap64 (1 + t288)), .int .i64 (wrap64 (1 + t290)), u293002] 36 (0, 0)) (by (with_reducible repeat (first | refine blk_drewN ?_ _ | refine blk_drew ?_ | refine blk_alloc ?_ _)); exact BK292.out) NB292_0.out (by simp))
          have n3_ := Aside0.mk (KeepBut.blk hk (g' := gb298) (o := .cells #[.int .i64 x299000_1, .int .i64 x299001_1, .int .i64 x299002_1, .int .i64 x299003_1] 39 (0, 0)) (by (with_reducible repeat (first | refine blk_drewN ?_ _ | refine blk_drew ?_ | refine blk_alloc ?_ _)); exact BK298.out) NB298_0.out (by simp))
          have n4_ := Aside0.mk (Kd.R_mono (Kd.R_keep (IsS82.apart (show IsS82 w0 _ g s0_0 t315 from by repeat (first | (with_reducible first | exact HI0.out | apply IsS82.alloc | apply IsS82.drewN | apply IsS82.drew | apply IsS82.set_1 | refine IsS82.far ?_ NB0_287.out _ | refine IsS82.far ?_ NB0_292.out _ | refine IsS82.far ?_ NB0_298.out _) | exact HI0.out)) (by (with_reducible repeat (first | apply Kd.R_alloc | apply Kd.R_drewN | apply Kd.R_drew)); exact HO318.out) (by decide)) hk (fun _ h => h.2)) (fun _ h => h.1))
          have n5_ := Aside0.mk (KeepBut.trans (by repeat (first | (with_reducible first | exact HK.out | apply KeepBut.set_ | apply keep_drewN | apply keep_drew | apply keep_alloc | refine keep_far ?_ GW287.out _ | refine keep_far ?_ GW292.out _ | refine keep_far ?_ GW298.out _) | exact HK.out)) hk (.inl rfl))
          have n6_ := Aside0.mk (hb)
          have n7_ := Aside0.mk (hi)
          clear HO_293002
          clear BK287
          clear BK292
          clear BK298
          clear HO318
          clear HK
          clear HB
          clear HI0
          have HO_293002 := n0_
          have BK287 := n1_
          have BK292 := n2_
          have BK298 := n3_
          have HO318 := n4_
          have HK := n5_
          have HB := n6_
          have HI0 := n7_
          clear n0_ n1_ n2_ n3_ n4_ n5_ n6_ n7_
          (try clear hb)
          (try clear hb2)
          (try clear hk)
          (try clear hi)
          refine hK.out _ _ ⟨(blk_cell BK292.out 0).trans rfl, (blk_cell BK292.out 1).trans rfl, (blk_cell BK292.out 2).trans rfl⟩ (fun hHeld => ?_)
          clear hK K
          refine norm_ (a' := ?_) ?_ ?_
          rotate_left
          ·show Act.put _ (some 63) _ = _
           simp only [Act.put, List.setIfInBounds_toArray, List.set_cons_zero, List.set_cons_succ, i64_w, i32_w]
           rfl
          exact norm_ (by simp only [putAll, Act.put, List.setIfInBounds_toArray, List.set_cons_zero, List.set_cons_succ]) (hCont (.slice (some ado66) y316.length co66, ado66) _ ⟨hHeld, (by (with_reducible repeat (first | apply Kd.R_alloc | apply Kd.R_drewN | apply Kd.R_drew)); exact HO318.out), (by (with_reducible repeat (first | apply Kd.Q_alloc | apply Kd.Q_drewN | apply Kd.Q_drew)); exact HO_293002.out), ⟨_, rfl⟩, (by (with_reducible repeat (first | refine blk_drewN ?_ _ | refine blk_drew ?_ | refine blk_alloc ?_ _)); exact BK287.out), (by (with_reducible repeat (first | refine blk_drewN ?_ _ | refine blk_drew ?_ | refine blk_alloc ?_ _)); exact BK292.out), (by (with_reducible repeat (first | refine blk_drewN ?_ _ | refine blk_drew ?_ | refine blk_alloc ?_ _)); exact BK298.out), (by repeat (first | (with_reducible first | exact HI0.out | apply IsS82.alloc | apply IsS82.drewN | apply IsS82.drew | apply IsS82.set_1 | refine IsS82.far ?_ NB0_287.out _ | refine IsS82.far ?_ NB0_292.out _ | refine IsS82.far ?_ NB0_298.out _) | exact HI0.out)), (by repeat (first | (with_reducible first | exact HK.out | apply KeepBut.set_ | apply keep_drewN | apply keep_drew | apply keep_alloc | refine keep_far ?_ GW287.out _ | refine keep_far ?_ GW292.out _ | refine keep_far ?_ GW298.out _) | exact HK.out)), (by repeat (first | (with_reducible first | exact HB.out | apply below_alloc | apply pw_below_drewN | apply below_drew1 | refine below_set ?_ (IsS82.ge HI0.out) | refine below_set ?_ GE287.out | refine below_set ?_ GE292.out | refine below_set ?_ GE298.out) | exact HB.out))⟩)
         ·skip
          refine goes_ Try.func52 (by kernel_rfl) rfl #[.pointer (some ⟨g, 0, none⟩), .int .i64 4] (by rfl) rfl rfl (by (try simp only [List.map_toArray, List.map_cons, List.map_nil]); first | done | rfl | (simp only [List.length_drop, List.length_take]; rfl)) ?_
          with_reducible refine (spec_l20Rd_pick.calls k1 g s0_0 t315 4 t319 t320 w0 _ ?side1 ?side2 A54.out).mono ?_
          (case side1 => repeat (first | (with_reducible first | exact HI0.out | apply IsS82.alloc | apply IsS82.drewN | apply IsS82.drew | apply IsS82.set_1 | refine IsS82.far ?_ NB0_287.out _ | refine IsS82.far ?_ NB0_292.out _ | refine IsS82.far ?_ NB0_298.out _) | exact HI0.out))
          (case side2 => repeat (first | (with_reducible first | exact HB.out | apply below_alloc | apply pw_below_drewN | apply below_drew1 | refine below_set ?_ (IsS82.ge HI0.out) | refine below_set ?_ GE287.out | refine below_set ?_ GE292.out | refine below_set ?_ GE298.out) | exact HB.out))
          rintro e w64 ⟨rfl, hi, hb, hk⟩
          refine ⟨_, rfl, ?_⟩
          have n0_ := Aside0.mk (Kd.Q_mono (Kd.Q_keep (IsS82.apartQ (show IsS82 w0 _ g s0_0 t315 from by repeat (first | (with_reducible first | exact HI0.out | apply IsS82.alloc | apply IsS82.drewN | apply IsS82.drew | apply IsS82.set_1 | refine IsS82.far ?_ NB0_287.out _ | refine IsS82.far ?_ NB0_292.out _ | refine IsS82.far ?_ NB0_298.out _) | exact HI0.out)) (by (with_reducible repeat (first | apply Kd.Q_alloc | apply Kd.Q_drewN | apply Kd.Q_drew)); exact HO_293002.out) (by decide)) hk (fun _ h => h.2)) (fun _ h => h.1))
          have n1_ := Aside0.mk (KeepBut.blk hk (g' := gb287) (o := .cells #[.int .i64 0, .int .i64 0, .slice none 0 0] 36 (0, 0)) (by (with_reducible repeat (first | refine blk_drewN ?_ _ | refine blk_drew ?_ | refine blk_alloc ?_ _)); exact BK287.out) NB287_0.out (by simp))
          have n2_ := Aside0.mk (KeepBut.blk hk (g' := gb292) (o := .cells #[.int .i64 (wrap64 (1 + t288)), .int .i64 (wrap64 (1 + t290)), u293002] 36 (0, 0)) (by (with_reducible repeat (first | refine blk_drewN ?_ _ | refine blk_drew ?_ | refine blk_alloc ?_ _)); exact BK292.out) NB292_0.out (by simp))
          have n3_ := Aside0.mk (KeepBut.blk hk (g' := gb298) (o := .cells #[.int .i64 x299000_1, .int .i64 x299001_1, .int .i64 x299002_1, .int .i64 x299003_1] 39 (0, 0)) (by (with_reducible repeat (first | refine blk_drewN ?_ _ | refine blk_drew ?_ | refine blk_alloc ?_ _)); exact BK298.out) NB298_0.out (by simp))
          have n4_ := Aside0.mk (KeepBut.trans (by repeat (first | (with_reducible first | exact HK.out | apply KeepBut.set_ | apply keep_drewN | apply keep_drew | apply keep_alloc | refine keep_far ?_ GW287.out _ | refine keep_far ?_ GW292.out _ | refine keep_far ?_ GW298.out _) | exact HK.out)) hk (.inl rfl))
          have n5_ := Aside0.mk (hb)
          have n6_ := Aside0.mk (hi)
          clear HO_293002
          clear BK287
          clear BK292
          clear BK298
          clear HK
          clear HB
          clear HI0
          have HO_293002 := n0_
          have BK287 := n1_
          have BK292 := n2_
          have BK298 := n3_
          have HK := n4_
          have HB := n5_
          have HI0 := n6_
          clear n0_ n1_ n2_ n3_ n4_ n5_ n6_
          (try clear hb)
          (try clear hb2)
          (try clear hk)
          (try clear hi)
          refine hK.out _ _ ⟨(blk_cell BK292.out 0).trans rfl, (blk_cell BK292.out 1).trans rfl, (blk_cell BK292.out 2).trans rfl⟩ (fun hHeld => ?_)
          clear hK K
          refine norm_ (a' := ?_) ?_ ?_
          rotate_left
          ·show Act.put _ (some 63) _ = _
           simp only [Act.put, List.setIfInBounds_toArray, List.set_cons_zero, List.set_cons_succ, i64_w, i32_w]
           rfl
          refine one_ (i := 3) (N := some 61) #[true, true, true, true, true, true, false, false, false, false] rfl rfl (one_of HT_.out (by kernel_rfl)) (by decide) (fun K hK => ?_)
          refine Kd.R_lit_step (Kd.int .i64) _ 3 ?hg (N := 61) ?hd (xs := ([0, (-1), 7, wrap64 ((wrap64 (1 + t288)) + 1)] : List Int)) (inner := [.int .i64 0, .int .i64 (-1), .int .i64 7, .int .i64 (wrap64 ((wrap64 (1 + t288)) + 1))]) (ok := fun _ => True) (okp := fun _ => True) ?hr ?hp (fun _ hk => hk) trivial (Below.refl _ _) (Nat.le_refl _) (by simp) ?_; (case hd => rfl); (case hg => rfl); (case hr => first | (go_simp; done) | (go_simp; rfl)); (case hp => exact (Reps.one (show Kd.M (Kd.int .i64) _ _ _ 0 [.int .i64 0] from rfl) (Reps.one (show Kd.M (Kd.int .i64) _ _ _ (-1) [.int .i64 (-1)] from rfl) (Reps.one (show Kd.M (Kd.int .i64) _ _ _ 7 [.int .i64 7] from rfl) (Reps.one (show Kd.M (Kd.int .i64) _ _ _ (wrap64 ((wrap64 (1 + t288)) + 1)) [.int .i64 (wrap64 ((wrap64 (1 + t288)) + 1))] from rfl) (Reps.none _ _))))))
          intro v317 w65 ho66 hb hg_ hnew_
          clear hg_ hnew_
          (first | rw [← Ny316.out] at ho66 | (simp only [Int.reduceToNat] at ho66; rw [← Ny316.out] at ho66))
          have n0_ := Aside0.mk (Kd.Q_below (by (with_reducible repeat (first | apply Kd.Q_alloc | apply Kd.Q_drewN | apply Kd.Q_drew)); exact HO_293002.out) hb)
          have n1_ := Aside0.mk (Kd.R_lower ho66 (keep_size (w := w) (g := g) (row := none) (by repeat (first | (with_reducible first | exact HK.out | apply KeepBut.set_ | apply keep_drewN | apply keep_drew | apply keep_alloc | refine keep_far ?_ GW287.out _ | refine keep_far ?_ GW292.out _ | refine keep_far ?_ GW298.out _) | exact HK.out))))
          have n2_ := Aside0.mk (blk_below (g := gb287) (o := .cells #[.int .i64 0, .int .i64 0, .slice none 0 0] 36 (0, 0)) (by (with_reducible repeat (first | refine blk_drewN ?_ _ | refine blk_drew ?_ | refine blk_alloc ?_ _)); exact BK287.out) hb)
          have n3_ := Aside0.mk (blk_below (g := gb292) (o := .cells #[.int .i64 (wrap64 (1 + t288)), .int .i64 (wrap64 (1 + t290)), u293002] 36 (0, 0)) (by (with_reducible repeat (first | refine blk_drewN ?_ _ | refine blk_drew ?_ | refine blk_alloc ?_ _)); exact BK292.out) hb)
          have n4_ := Aside0.mk (blk_below (g := gb298) (o := .cells #[.int .i64 x299000_1, .int .i64 x299001_1, .int .i64 x299002_1, .int .i64 x299003_1] 39 (0, 0)) (by (with_reducible repeat (first | refine blk_drewN ?_ _ | refine blk_drew ?_ | refine blk_alloc ?_ _)); exact BK298.out) hb)
          have n5_ := Aside0.mk (IsS82.below (by repeat (first | (with_reducible first | exact HI0.out | apply IsS82.alloc | apply IsS82.drewN | apply IsS82.drew | apply IsS82.set_1 | refine IsS82.far ?_ NB0_287.out _ | refine IsS82.far ?_ NB0_292.out _ | refine IsS82.far ?_ NB0_298.out _) | exact HI0.out)) hb)
          have n6_ := Aside0.mk (KeepBut.trans (by repeat (first | (with_reducible first | exact HK.out | apply KeepBut.set_ | apply keep_drewN | apply keep_drew | apply keep_alloc | refine keep_far ?_ GW287.out _ | refine keep_far ?_ GW292.out _ | refine keep_far ?_ GW298.out _) | exact HK.out)) (KeepBut.of_below hb g none) (.inl rfl))
          have n7_ := Aside0.mk (below_step (by repeat (first | (with_reducible first | exact HB.out | apply below_alloc | apply pw_below_drewN | apply below_drew1 | refine below_set ?_ (IsS82.ge HI0.out) | refine below_set ?_ GE287.out | refine below_set ?_ GE292.out | refine below_set ?_ GE298.out) | exact HB.out)) hb)
          clear HO_293002
          clear BK287
          clear BK292
          clear BK298
          clear HI0
          clear HK
          clear HB
          have HO_293002 := n0_
          have HO318 := n1_
          have BK287 := n2_
          have BK292 := n3_
          have BK298 := n4_
          have HI0 := n5_
          have HK := n6_
          have HB := n7_
          clear n0_ n1_ n2_ n3_ n4_ n5_ n6_ n7_
          clear hb ho66
          obtain ⟨Ao67, co67, eo67⟩ := Kd.R_slice HO318.out
          subst eo67
          obtain ⟨ado67, fo67, _⟩ := Kd.at_int (Kd.R_reads' HO318.out).2.2 0 (by decide) (by rw [Ny316.out]; simp)
          cases fo67
          refine hK.out _ _ ⟨(blk_cell BK292.out 0).trans rfl, (blk_cell BK292.out 1).trans rfl, (blk_cell BK292.out 2).trans rfl⟩ (fun hHeld => ?_)
          clear hK K
          refine norm_ (a' := ?_) ?_ ?_
          rotate_left
          ·show Act.put _ (some 61) _ = _
           simp only [Act.put, List.setIfInBounds_toArray, List.set_cons_zero, List.set_cons_succ, i64_w, i32_w]
           rfl
          exact norm_ (by simp only [putAll, Act.put, List.setIfInBounds_toArray, List.set_cons_zero, List.set_cons_succ]) (hCont (.slice (some ado67) y316.length co67, ado67) _ ⟨hHeld, (by (with_reducible repeat (first | apply Kd.R_alloc | apply Kd.R_drewN | apply Kd.R_drew)); exact HO318.out), (by (with_reducible repeat (first | apply Kd.Q_alloc | apply Kd.Q_drewN | apply Kd.Q_drew)); exact HO_293002.out), ⟨_, rfl⟩, (by (with_reducible repeat (first | refine blk_drewN ?_ _ | refine blk_drew ?_ | refine blk_alloc ?_ _)); exact BK287.out), (by (with_reducible repeat (first | refine blk_drewN ?_ _ | refine blk_drew ?_ | refine blk_alloc ?_ _)); exact BK292.out), (by (with_reducible repeat (first | refine blk_drewN ?_ _ | refine blk_drew ?_ | refine blk_alloc ?_ _)); exact BK298.out), (by repeat (first | (with_reducible first | exact HI0.out | apply IsS82.alloc | apply IsS82.drewN | apply IsS82.drew | apply IsS82.set_1 | refine IsS82.far ?_ NB0_287.out _ | refine IsS82.far ?_ NB0_292.out _ | refine IsS82.far ?_ NB0_298.out _) | exact HI0.out)), (by repeat (first | (with_reducible first | exact HK.out | apply KeepBut.set_ | apply keep_drewN | apply keep_drew | apply keep_alloc | refine keep_far ?_ GW287.out _ | refine keep_far ?_ GW292.out _ | refine keep_far ?_ GW298.out _) | exact HK.out)), (by repeat (first | (with_reducible first | exact HB.out | apply below_alloc | apply pw_below_drewN | apply below_drew1 | refine below_set ?_ (IsS82.ge HI0.out) | refine below_set ?_ GE287.out | refine below_set ?_ GE292.out | refine below_set ?_ GE298.out) | exact HB.out))⟩)
        rintro ⟨v317, adz_v317⟩ w68 ⟨hS_, h0_, h1_, h2_, h3_, h4_, h5_, h6_, h7_, h8_⟩
        have n0_ : Aside0 (Kd.R (Kd.int .i64) 3 w68 w.heap.size (fun _ => True) v317 y316) := ⟨h0_⟩
        have n1_ : Aside0 (Kd.Q k39 39 w68 w.heap.size (fun k_ => k_ ≠ gb298) u293002 x293002_1) := ⟨h1_⟩
        have n2_ : Aside0 (∃ c_, (v317 : Value) = .slice (some adz_v317) y316.length c_) := ⟨h2_⟩
        have n3_ : Aside0 (w68.heap[gb287]? = some (.cells #[.int .i64 0, .int .i64 0, .slice none 0 0] 36 (0, 0))) := ⟨h3_⟩
        have n4_ : Aside0 (w68.heap[gb292]? = some (.cells #[.int .i64 (wrap64 (1 + t288)), .int .i64 (wrap64 (1 + t290)), u293002] 36 (0, 0))) := ⟨h4_⟩
        have n5_ : Aside0 (w68.heap[gb298]? = some (.cells #[.int .i64 x299000_1, .int .i64 x299001_1, .int .i64 x299002_1, .int .i64 x299003_1] 39 (0, 0))) := ⟨h5_⟩
        have n6_ : Aside0 (IsS82 w0 w68 g s0_0 t320) := ⟨h6_⟩
        have n7_ : Aside0 (KeepBut w w68 g none) := ⟨h7_⟩
        have n8_ : Aside0 (Below w0.heap.size w0 w68) := ⟨h8_⟩
        clear HO_293002
        clear BK287
        clear BK292
        clear BK298
        clear HI0
        clear HK
        clear HB
        clear h0_ h1_ h2_ h3_ h4_ h5_ h6_ h7_ h8_
        have HO318 := n0_
        have HO_293002 := n1_
        have HA_HO318 := n2_
        have BK287 := n3_
        have BK292 := n4_
        have BK298 := n5_
        have HI0 := n6_
        have HK := n7_
        have HB := n8_
        clear n0_ n1_ n2_ n3_ n4_ n5_ n6_ n7_ n8_
        have hHeld : w68.cell? ⟨gb292, 0, none⟩ = some (.int .i64 (wrap64 (1 + t288))) ∧ w68.cell? ⟨gb292, 1, none⟩ = some (.int .i64 (wrap64 (1 + t290))) ∧ w68.cell? ⟨gb292, 2, none⟩ = some (u293002) := hS_
        obtain ⟨co69, eo69⟩ := HA_HO318.out
        clear HA_HO318
        subst eo69
        refine norm_ (a' := ?_) ?_ ?_
        rotate_left
        ·simp only [putAll, Act.put, List.setIfInBounds_toArray, List.set_cons_zero, List.set_cons_succ]
         rfl
        refine pure_ (i := 6) (N := some 64) (v := ?_) (a' := ?_) #[true, true, true, true, true, true, true, false, false, false] rfl rfl (any_of HT_.out (by kernel_rfl)) (fun _ _ _ h => h) (Or.inl ⟨by rfl, ?_⟩) ?_ ?_
        rotate_left
        ·intro w'
         go_simp
         with_reducible rfl
        rotate_left
        ·simp only [Act.put, List.setIfInBounds_toArray, List.set_cons_zero, List.set_cons_succ, i64_w, i32_w]
         rfl
        refine one_ (i := 7) (N := some 65) #[true, true, true, true, true, true, true, true, false, false] rfl rfl (one_of HT_.out (by kernel_rfl)) (by decide) (fun K hK => ?_)
        (have p321 : 0 ≤ (t319 : Int) := of_decide_eq_true (by first | (with_reducible assumption) | assumption); have q321 : t319 < (y316.length : Int) := of_decide_eq_true (by first | (with_reducible assumption) | assumption); obtain ⟨ad321, e321, hx321_0⟩ := Kd.at_int (Kd.R_reads' HO318.out).2.2 t319 p321 q321; obtain rfl : adz_v317 = ad321 := (by injection e321))
        refine value_ (w1 := ?_) (v := ?_) (by rfl) rfl ?_ ?_
        rotate_left 2
        ·go_simp
         constructor
         ·rfl
         ·rfl
        clear hx321_0
        refine hK.out _ _ ⟨(blk_cell BK292.out 0).trans rfl, (blk_cell BK292.out 1).trans rfl, (blk_cell BK292.out 2).trans rfl⟩ (fun hHeld => ?_)
        clear hK K
        refine norm_ (a' := ?_) ?_ ?_
        rotate_left
        ·show Act.put _ (some 65) _ = _
         simp only [Act.put, List.setIfInBounds_toArray, List.set_cons_zero, List.set_cons_succ, i64_w, i32_w]
         rfl
        refine pure_ (i := 8) (N := some 66) (v := ?_) (a' := ?_) #[true, true, true, true, true, true, true, true, true, false] rfl rfl (any_of HT_.out (by kernel_rfl)) (fun _ _ _ h => h) (Or.inl ⟨by rfl, ?_⟩) ?_ ?_
        rotate_left
        ·intro w'
         go_simp
         with_reducible rfl
        rotate_left
        ·simp only [Act.put, List.setIfInBounds_toArray, List.set_cons_zero, List.set_cons_succ, i64_w, i32_w]
         rfl
        refine last_ (i := 9) (N := none) #[true, true, true, true, true, true, true, true, true, true] rfl rfl (one_of HT_.out (by kernel_rfl)) (by decide) (fun K hK => ?_)
        have hs70 : w68.cell? ⟨gb292, 0, none⟩ = some (.int .i64 (wrap64 (1 + t288))) := (blk_cell BK292.out 0).trans rfl
        have hfs70 := blk_frozen BK292.out 0
        have hns70_0 := NB287_292.out
        have hns70_2 := NB298_292.out
        have hms70_0 := NB292_287.out
        have hms70_2 := NB292_298.out
        refine skip_ (w1 := ?_) (by rfl) rfl ?_ ?_
        rotate_left
        ·go_simp
         rfl
        refine hK.out _ _ ?_
        clear hK K
        refine done_ (done_of HT_.out (by kernel_rfl)) ?_
        have hcz71_0 : w68.cell? ⟨gb292, 0, none⟩ = some (.int .i64 (wrap64 (1 + t288))) := (blk_cell BK292.out 0).trans rfl
        have hcz71_1 : w68.cell? ⟨gb292, 1, none⟩ = some (.int .i64 (wrap64 (1 + t290))) := (blk_cell BK292.out 1).trans rfl
        have hcz71_2 : w68.cell? ⟨gb292, 2, none⟩ = some (u293002) := (blk_cell BK292.out 2).trans rfl
        have hfz71_0 := blk_frozen BK292.out 0
        have hfz71_1 := blk_frozen BK292.out 1
        have hfz71_2 := blk_frozen BK292.out 2
        have hnb72 := NB287_298.out
        have hnc72 := NB298_287.out
        have hnb73 := NB287_0.out
        have hnc73 := NB0_287.out
        have hcz74_0 : w68.cell? ⟨gb287, 0, none⟩ = some (.int .i64 0) := (blk_cell BK287.out 0).trans rfl
        have hcz74_1 : w68.cell? ⟨gb287, 1, none⟩ = some (.int .i64 0) := (blk_cell BK287.out 1).trans rfl
        have hcz74_2 : w68.cell? ⟨gb287, 2, none⟩ = some (.slice none 0 0) := (blk_cell BK287.out 2).trans rfl
        have hfz74_0 := blk_frozen BK287.out 0
        have hfz74_1 := blk_frozen BK287.out 1
        have hfz74_2 := blk_frozen BK287.out 2
        obtain ⟨Ao75, co75, eo75, _⟩ := Kd.Q_slice HO_293002.out
        subst eo75
        try go_wp2
        refine bodyPost_ret (results_cell_row rfl _ _ gb287 36 #[.int .i64 (rd y316 t319), .int .i64 (wrap64 (1 + t290)), .slice Ao75 x293002_1.length co75] (0, 0) _ rfl (by (with_reducible repeat (first | refine blk_drewN ?_ _ | refine blk_drew ?_ | refine blk_alloc ?_ _)); refine blk_put (cs := #[.int .i64 (rd y316 t319), .int .i64 (wrap64 (1 + t290)), .slice none 0 0]) ?_ 2 _ rfl; (with_reducible repeat (first | refine blk_drewN ?_ _ | refine blk_drew ?_ | refine blk_alloc ?_ _)); refine blk_put (cs := #[.int .i64 (rd y316 t319), .int .i64 0, .slice none 0 0]) ?_ 1 _ rfl; (with_reducible repeat (first | refine blk_drewN ?_ _ | refine blk_drew ?_ | refine blk_alloc ?_ _)); refine blk_put (cs := #[.int .i64 0, .int .i64 0, .slice none 0 0]) ?_ 0 _ rfl; (with_reducible repeat (first | refine blk_drewN ?_ _ | refine blk_drew ?_ | refine blk_alloc ?_ _)); refine blk_far ?_ NB287_292.out _; (with_reducible repeat (first | refine blk_drewN ?_ _ | refine blk_drew ?_ | refine blk_alloc ?_ _)); exact BK287.out) Try.underlying36 rfl (by kernel_rfl)) rfl ?_
        exact ⟨_, by first | rfl | (simp [errW_none, errW_some] <;> rfl) | (simp [*, errW_none, errW_some] <;> rfl), by (with_reducible repeat (first | apply Kd.Q_alloc | apply Kd.Q_drewN | apply Kd.Q_drew)); exact Kd.Q_mono (Kd.Q_far (p := ⟨gb287, 2, none⟩) (Kd.Q_far (p := ⟨gb287, 1, none⟩) (Kd.Q_far (p := ⟨gb287, 0, none⟩) (Kd.Q_far (p := ⟨gb292, 0, none⟩) (Kd.Q_types (Kd.Q_types HO_293002.out BK292.out (by decide)) BK287.out (by decide)) (fun _ hk => hk.1.2) (.int .i64 (rd y316 t319))) (fun _ hk => hk.2) (.int .i64 (rd y316 t319))) (fun _ hk => hk.2) (.int .i64 (wrap64 (1 + t290)))) (fun _ hk => hk.2) (.slice Ao75 x293002_1.length co75)) (fun _ hk => trivial), by repeat (first | (with_reducible first | exact HI0.out | apply IsS82.alloc | apply IsS82.drewN | apply IsS82.drew | apply IsS82.set_1 | refine IsS82.far ?_ NB0_287.out _ | refine IsS82.far ?_ NB0_292.out _ | refine IsS82.far ?_ NB0_298.out _) | exact HI0.out), by repeat (first | (with_reducible first | exact HB.out | apply below_alloc | apply pw_below_drewN | apply below_drew1 | refine below_set ?_ (IsS82.ge HI0.out) | refine below_set ?_ GE287.out | refine below_set ?_ GE292.out | refine below_set ?_ GE298.out) | exact HB.out), by repeat (first | (with_reducible first | exact HK.out | apply KeepBut.set_ | apply keep_drewN | apply keep_drew | apply keep_alloc | refine keep_far ?_ GW287.out _ | refine keep_far ?_ GW292.out _ | refine keep_far ?_ GW298.out _) | exact HK.out)⟩
       ·rw [if_neg c56] at H
        exact absurd H (by simp)
      ·rw [if_neg c55] at H
       exact absurd H (by simp)
     ·rw [if_neg c53] at H
      have c53b0 : (t314 == 0) = false := beq_eq_false_iff_ne.mpr c53
      have c53b1 : (t314 != 0) = true := bne_iff_ne.mpr c53
      by_cases c76 : t314 = 1
      ·rw [if_pos c76] at H
       have c76b0 : (t314 == 1) = true := beq_iff_eq.mpr c76
       have c76b1 : (t314 != 1) = false := bne_eq_false_iff_eq.mpr c76
       clear c76
       obtain ⟨y322, hy322⟩ : ∃ y_ : List Int, y_ = (([0, 7] : List Int)) := ⟨_, rfl⟩
       replace H : ((spec_l20Rd_pick.f k1 s0_0 t315 2).bind fun bt325 => (if 0 ≤ bt325.1 then (if bt325.1 < (y322.length : Int) then (some ((wrap64 (1 + t288)), rd y322 bt325.1, x293002_1, bt325.2)) else (none)) else (none))) = some (r1, r2, r3, r4) := by first | (rw [hy322]; with_reducible exact H) | (have H2_ := (Option.bind_some _ _).symm.trans H; rw [hy322]; with_reducible exact H2_) | (have H2_ := (Option.bind_some _ _).symm.trans H; with_reducible exact H2_) | with_reducible exact H | (rw [hy322]; exact H) | exact H
       have Ny322 := Aside0.mk hy322
       clear hy322
       replace H := Option.bind_eq_some_iff.mp H
       obtain ⟨⟨t325, t326⟩, A770, H⟩ := H
       replace H : (if 0 ≤ t325 then (if t325 < (y322.length : Int) then (some ((wrap64 (1 + t288)), rd y322 t325, x293002_1, t326)) else (none)) else (none)) = some (r1, r2, r3, r4) := H
       have A77 := Aside0.mk A770
       clear A770
       by_cases c78 : 0 ≤ t325
       ·rw [if_pos c78] at H
        have c78b0 : decide (0 ≤ t325) = true := decide_eq_true c78
        clear c78
        by_cases c79 : t325 < (y322.length : Int)
        ·rw [if_pos c79] at H
         have c79b0 : decide (t325 < (y322.length : Int)) = true := decide_eq_true c79
         clear c79
         simp only [Option.some.injEq, Prod.mk.injEq] at H
         obtain ⟨rfl, rfl, rfl, rfl⟩ := H
         have hnb80 := NB292_287.out
         have hnc80 := NB287_292.out
         have hnb81 := NB292_298.out
         have hnc81 := NB298_292.out
         have hnb82 := NB292_0.out
         have hnc82 := NB0_292.out
         have hcz83_0 : wr.cell? ⟨gb292, 0, none⟩ = some (.int .i64 (wrap64 (1 + t288))) := (blk_cell BK292.out 0).trans rfl
         have hcz83_1 : wr.cell? ⟨gb292, 1, none⟩ = some (.int .i64 (wrap64 (1 + t290))) := (blk_cell BK292.out 1).trans rfl
         have hcz83_2 : wr.cell? ⟨gb292, 2, none⟩ = some (u293002) := (blk_cell BK292.out 2).trans rfl
         have hfz83_0 := blk_frozen BK292.out 0
         have hfz83_1 := blk_frozen BK292.out 1
         have hfz83_2 := blk_frozen BK292.out 2
         go_wp2_with (first | ((with_reducible refine gate_callee (f := 63) rfl ?_); refine goesL_ (some 39) rfl rfl Try.func63 (by kernel_rfl) rfl #[.pointer (some ⟨g, 0, none⟩), .int .i64 a1] rfl (by (try simp only [List.map_toArray, List.map_cons, List.map_nil]); first | done | rfl | (simp only [List.length_drop, List.length_take]; rfl)) ?_; (with_reducible refine (spec_l20Rd_odd.calls k1 g s0_0 x1001_1 a1 true t313 w0 _ ?side1 ?side2 A50.out).mono ?_); (case side1 => repeat (first | (with_reducible first | exact HI0.out | apply IsS82.alloc | apply IsS82.drewN | apply IsS82.drew | apply IsS82.set_1 | refine IsS82.far ?_ NB0_287.out _ | refine IsS82.far ?_ NB0_292.out _ | refine IsS82.far ?_ NB0_298.out _) | exact HI0.out)); (case side2 => repeat (first | (with_reducible first | exact HB.out | apply below_alloc | apply pw_below_drewN | apply below_drew1 | refine below_set ?_ (IsS82.ge HI0.out) | refine below_set ?_ GE287.out | refine below_set ?_ GE292.out | refine below_set ?_ GE298.out) | exact HB.out)); rintro e w84 ⟨rfl, hi, hb, hk⟩; refine ⟨_, rfl, ?_⟩; have n0_ := Aside0.mk (Kd.Q_mono (Kd.Q_keep (IsS82.apartQ (show IsS82 w0 _ g s0_0 x1001_1 from by repeat (first | (with_reducible first | exact HI0.out | apply IsS82.alloc | apply IsS82.drewN | apply IsS82.drew | apply IsS82.set_1 | refine IsS82.far ?_ NB0_287.out _ | refine IsS82.far ?_ NB0_292.out _ | refine IsS82.far ?_ NB0_298.out _) | exact HI0.out)) (by (with_reducible repeat (first | apply Kd.Q_alloc | apply Kd.Q_drewN | apply Kd.Q_drew)); exact HO_293002.out) (by decide)) hk (fun _ h => h.2)) (fun _ h => h.1)); have n1_ := Aside0.mk (KeepBut.blk hk (g' := gb287) (o := .cells #[.int .i64 0, .int .i64 0, .slice none 0 0] 36 (0, 0)) (by (with_reducible repeat (first | refine blk_drewN ?_ _ | refine blk_drew ?_ | refine blk_alloc ?_ _)); exact BK287.out) NB287_0.out (by simp)); have n2_ := Aside0.mk (KeepBut.blk hk (g' := gb292) (o := .cells #[.int .i64 (wrap64 (1 + t288)), .int .i64 (wrap64 (1 + t290)), u293002] 36 (0, 0)) (by (with_reducible repeat (first | refine blk_drewN ?_ _ | refine blk_drew ?_ | refine blk_alloc ?_ _)); exact BK292.out) NB292_0.out (by simp)); have n3_ := Aside0.mk (KeepBut.blk hk (g' := gb298) (o := .cells #[.int .i64 x299000_1, .int .i64 x299001_1, .int .i64 x299002_1, .int .i64 x299003_1] 39 (0, 0)) (by (with_reducible repeat (first | refine blk_drewN ?_ _ | refine blk_drew ?_ | refine blk_alloc ?_ _)); exact BK298.out) NB298_0.out (by simp)); have n4_ := Aside0.mk (KeepBut.trans (by repeat (first | (with_reducible first | exact HK.out | apply KeepBut.set_ | apply keep_drewN | apply keep_drew | apply keep_alloc | refine keep_far ?_ GW287.out _ | refine keep_far ?_ GW292.out _ | refine keep_far ?_ GW298.out _) | exact HK.out)) hk (.inl rfl)); have n5_ := Aside0.mk (hb); have n6_ := Aside0.mk (hi); clear HO_293002; clear BK287; clear BK292; clear BK298; clear HK; clear HB; clear HI0; have HO_293002 := n0_; have BK287 := n1_; have BK292 := n2_; have BK298 := n3_; have HK := n4_; have HB := n5_; have HI0 := n6_; clear n0_ n1_ n2_ n3_ n4_ n5_ n6_; (try clear hb); (try clear hb2); (try clear hk); (try clear hi)) | ((with_reducible refine gate_callee (f := 52) rfl ?_); refine goesL_ (some 41) rfl rfl Try.func52 (by kernel_rfl) rfl #[.pointer (some ⟨g, 0, none⟩), .int .i64 4] rfl (by (try simp only [List.map_toArray, List.map_cons, List.map_nil]); first | done | rfl | (simp only [List.length_drop, List.length_take]; rfl)) ?_; (with_reducible refine (spec_l20Rd_pick.calls k1 g s0_0 t313 4 t314 t315 w0 _ ?side1 ?side2 A52.out).mono ?_); (case side1 => repeat (first | (with_reducible first | exact HI0.out | apply IsS82.alloc | apply IsS82.drewN | apply IsS82.drew | apply IsS82.set_1 | refine IsS82.far ?_ NB0_287.out _ | refine IsS82.far ?_ NB0_292.out _ | refine IsS82.far ?_ NB0_298.out _) | exact HI0.out)); (case side2 => repeat (first | (with_reducible first | exact HB.out | apply below_alloc | apply pw_below_drewN | apply below_drew1 | refine below_set ?_ (IsS82.ge HI0.out) | refine below_set ?_ GE287.out | refine below_set ?_ GE292.out | refine below_set ?_ GE298.out) | exact HB.out)); rintro e w85 ⟨rfl, hi, hb, hk⟩; refine ⟨_, rfl, ?_⟩; have n0_ := Aside0.mk (Kd.Q_mono (Kd.Q_keep (IsS82.apartQ (show IsS82 w0 _ g s0_0 t313 from by repeat (first | (with_reducible first | exact HI0.out | apply IsS82.alloc | apply IsS82.drewN | apply IsS82.drew | apply IsS82.set_1 | refine IsS82.far ?_ NB0_287.out _ | refine IsS82.far ?_ NB0_292.out _ | refine IsS82.far ?_ NB0_298.out _) | exact HI0.out)) (by (with_reducible repeat (first | apply Kd.Q_alloc | apply Kd.Q_drewN | apply Kd.Q_drew)); exact HO_293002.out) (by decide)) hk (fun _ h => h.2)) (fun _ h => h.1)); have n1_ := Aside0.mk (KeepBut.blk hk (g' := gb287) (o := .cells #[.int .i64 0, .int .i64 0, .slice none 0 0] 36 (0, 0)) (by (with_reducible repeat (first | refine blk_drewN ?_ _ | refine blk_drew ?_ | refine blk_alloc ?_ _)); exact BK287.out) NB287_0.out (by simp)); have n2_ := Aside0.mk (KeepBut.blk hk (g' := gb292) (o := .cells #[.int .i64 (wrap64 (1 + t288)), .int .i64 (wrap64 (1 + t290)), u293002] 36 (0, 0)) (by (with_reducible repeat (first | refine blk_drewN ?_ _ | refine blk_drew ?_ | refine blk_alloc ?_ _)); exact BK292.out) NB292_0.out (by simp)); have n3_ := Aside0.mk (KeepBut.blk hk (g' := gb298) (o := .cells #[.int .i64 x299000_1, .int .i64 x299001_1, .int .i64 x299002_1, .int .i64 x299003_1] 39 (0, 0)) (by (with_reducible repeat (first | refine blk_drewN ?_ _ | refine blk_drew ?_ | refine blk_alloc ?_ _)); exact BK298.out) NB298_0.out (by simp)); have n4_ := Aside0.mk (KeepBut.trans (by repeat (first | (with_reducible first | exact HK.out | apply KeepBut.set_ | apply keep_drewN | apply keep_drew | apply keep_alloc | refine keep_far ?_ GW287.out _ | refine keep_far ?_ GW292.out _ | refine keep_far ?_ GW298.out _) | exact HK.out)) hk (.inl rfl)); have n5_ := Aside0.mk (hb); have n6_ := Aside0.mk (hi); clear HO_293002; clear BK287; clear BK292; clear BK298; clear HK; clear HB; clear HI0; have HO_293002 := n0_; have BK287 := n1_; have BK292 := n2_; have BK298 := n3_; have HK := n4_; have HB := n5_; have HI0 := n6_; clear n0_ n1_ n2_ n3_ n4_ n5_ n6_; (try clear hb); (try clear hb2); (try clear hk); (try clear hi)) | ((with_reducible refine gate_dst (N := 69) rfl ?_); refine Kd.R_lit (Kd.int .i64) _ 3 ?hg (N := 69) ?hd (xs := ([0, 7] : List Int)) (inner := [.int .i64 0, .int .i64 7]) (ok := fun _ => True) (okp := fun _ => True) ?hr ?hp (fun _ hk => hk) trivial (Below.refl _ _) (Nat.le_refl _) (by simp) ?_; (case hd => rfl); (case hg => rfl); (case hr => first | (go_simp; done) | (go_simp; rfl)); (case hp => exact (Reps.one (show Kd.M (Kd.int .i64) _ _ _ 0 [.int .i64 0] from rfl) (Reps.one (show Kd.M (Kd.int .i64) _ _ _ 7 [.int .i64 7] from rfl) (Reps.none _ _)))); intro v323 w86 ho87 hb hg_ hnew_; clear hg_ hnew_; (first | rw [← Ny322.out] at ho87 | (simp only [Int.reduceToNat] at ho87; rw [← Ny322.out] at ho87)); have n0_ := Aside0.mk (Kd.Q_below (by (with_reducible repeat (first | apply Kd.Q_alloc | apply Kd.Q_drewN | apply Kd.Q_drew)); exact HO_293002.out) hb); have n1_ := Aside0.mk (Kd.R_lower ho87 (keep_size (w := w) (g := g) (row := none) (by repeat (first | (with_reducible first | exact HK.out | apply KeepBut.set_ | apply keep_drewN | apply keep_drew | apply keep_alloc | refine keep_far ?_ GW287.out _ | refine keep_far ?_ GW292.out _ | refine keep_far ?_ GW298.out _) | exact HK.out)))); have n2_ := Aside0.mk (blk_below (g := gb287) (o := .cells #[.int .i64 0, .int .i64 0, .slice none 0 0] 36 (0, 0)) (by (with_reducible repeat (first | refine blk_drewN ?_ _ | refine blk_drew ?_ | refine blk_alloc ?_ _)); exact BK287.out) hb); have n3_ := Aside0.mk (blk_below (g := gb292) (o := .cells #[.int .i64 (wrap64 (1 + t288)), .int .i64 (wrap64 (1 + t290)), u293002] 36 (0, 0)) (by (with_reducible repeat (first | refine blk_drewN ?_ _ | refine blk_drew ?_ | refine blk_alloc ?_ _)); exact BK292.out) hb); have n4_ := Aside0.mk (blk_below (g := gb298) (o := .cells #[.int .i64 x299000_1, .int .i64 x299001_1, .int .i64 x299002_1, .int .i64 x299003_1] 39 (0, 0)) (by (with_reducible repeat (first | refine blk_drewN ?_ _ | refine blk_drew ?_ | refine blk_alloc ?_ _)); exact BK298.out) hb); have n5_ := Aside0.mk (IsS82.below (by repeat (first | (with_reducible first | exact HI0.out | apply IsS82.alloc | apply IsS82.drewN | apply IsS82.drew | apply IsS82.set_1 | refine IsS82.far ?_ NB0_287.out _ | refine IsS82.far ?_ NB0_292.out _ | refine IsS82.far ?_ NB0_298.out _) | exact HI0.out)) hb); have n6_ := Aside0.mk (KeepBut.trans (by repeat (first | (with_reducible first | exact HK.out | apply KeepBut.set_ | apply keep_drewN | apply keep_drew | apply keep_alloc | refine keep_far ?_ GW287.out _ | refine keep_far ?_ GW292.out _ | refine keep_far ?_ GW298.out _) | exact HK.out)) (KeepBut.of_below hb g none) (.inl rfl)); have n7_ := Aside0.mk (below_step (by repeat (first | (with_reducible first | exact HB.out | apply below_alloc | apply pw_below_drewN | apply below_drew1 | refine below_set ?_ (IsS82.ge HI0.out) | refine below_set ?_ GE287.out | refine below_set ?_ GE292.out | refine below_set ?_ GE298.out) | exact HB.out)) hb); clear HO_293002; clear BK287; clear BK292; clear BK298; clear HI0; clear HK; clear HB; have HO_293002 := n0_; have HO324 := n1_; have BK287 := n2_; have BK292 := n3_; have BK298 := n4_; have HI0 := n5_; have HK := n6_; have HB := n7_; clear n0_ n1_ n2_ n3_ n4_ n5_ n6_ n7_; clear hb ho87) | ((with_reducible refine gate_callee (f := 52) rfl ?_); refine goesL_ (some 71) rfl rfl Try.func52 (by kernel_rfl) rfl #[.pointer (some ⟨g, 0, none⟩), .int .i64 2] rfl (by (try simp only [List.map_toArray, List.map_cons, List.map_nil]); first | done | rfl | (simp only [List.length_drop, List.length_take]; rfl)) ?_; (with_reducible refine (spec_l20Rd_pick.calls k1 g s0_0 t315 2 t325 t326 w0 _ ?side1 ?side2 A77.out).mono ?_); (case side1 => repeat (first | (with_reducible first | exact HI0.out | apply IsS82.alloc | apply IsS82.drewN | apply IsS82.drew | apply IsS82.set_1 | refine IsS82.far ?_ NB0_287.out _ | refine IsS82.far ?_ NB0_292.out _ | refine IsS82.far ?_ NB0_298.out _) | exact HI0.out)); (case side2 => repeat (first | (with_reducible first | exact HB.out | apply below_alloc | apply pw_below_drewN | apply below_drew1 | refine below_set ?_ (IsS82.ge HI0.out) | refine below_set ?_ GE287.out | refine below_set ?_ GE292.out | refine below_set ?_ GE298.out) | exact HB.out)); rintro e w88 ⟨rfl, hi, hb, hk⟩; refine ⟨_, rfl, ?_⟩; have n0_ := Aside0.mk (Kd.Q_mono (Kd.Q_keep (IsS82.apartQ (show IsS82 w0 _ g s0_0 t315 from by repeat (first | (with_reducible first | exact HI0.out | apply IsS82.alloc | apply IsS82.drewN | apply IsS82.drew | apply IsS82.set_1 | refine IsS82.far ?_ NB0_287.out _ | refine IsS82.far ?_ NB0_292.out _ | refine IsS82.far ?_ NB0_298.out _) | exact HI0.out)) (by (with_reducible repeat (first | apply Kd.Q_alloc | apply Kd.Q_drewN | apply Kd.Q_drew)); exact HO_293002.out) (by decide)) hk (fun _ h => h.2)) (fun _ h => h.1)); have n1_ := Aside0.mk (KeepBut.blk hk (g' := gb287) (o := .cells #[.int .i64 0, .int .i64 0, .slice none 0 0] 36 (0, 0)) (by (with_reducible repeat (first | refine blk_drewN ?_ _ | refine blk_drew ?_ | refine blk_alloc ?_ _)); exact BK287.out) NB287_0.out (by simp)); have n2_ := Aside0.mk (KeepBut.blk hk (g' := gb292) (o := .cells #[.int .i64 (wrap64 (1 + t288)), .int .i64 (wrap64 (1 + t290)), u293002] 36 (0, 0)) (by (with_reducible repeat (first | refine blk_drewN ?_ _ | refine blk_drew ?_ | refine blk_alloc ?_ _)); exact BK292.out) NB292_0.out (by simp)); have n3_ := Aside0.mk (KeepBut.blk hk (g' := gb298) (o := .cells #[.int .i64 x299000_1, .int .i64 x299001_1, .int .i64 x299002_1, .int .i64 x299003_1] 39 (0, 0)) (by (with_reducible repeat (first | refine blk_drewN ?_ _ | refine blk_drew ?_ | refine blk_alloc ?_ _)); exact BK298.out) NB298_0.out (by simp)); have n4_ := Aside0.mk (Kd.R_mono (Kd.R_keep (IsS82.apart (show IsS82 w0 _ g s0_0 t315 from by repeat (first | (with_reducible first | exact HI0.out | apply IsS82.alloc | apply IsS82.drewN | apply IsS82.drew | apply IsS82.set_1 | refine IsS82.far ?_ NB0_287.out _ | refine IsS82.far ?_ NB0_292.out _ | refine IsS82.far ?_ NB0_298.out _) | exact HI0.out)) (by (with_reducible repeat (first | apply Kd.R_alloc | apply Kd.R_drewN | apply Kd.R_drew)); exact HO324.out) (by decide)) hk (fun _ h => h.2)) (fun _ h => h.1)); have n5_ := Aside0.mk (KeepBut.trans (by repeat (first | (with_reducible first | exact HK.out | apply KeepBut.set_ | apply keep_drewN | apply keep_drew | apply keep_alloc | refine keep_far ?_ GW287.out _ | refine keep_far ?_ GW292.out _ | refine keep_far ?_ GW298.out _) | exact HK.out)) hk (.inl rfl)); have n6_ := Aside0.mk (hb); have n7_ := Aside0.mk (hi); clear HO_293002; clear BK287; clear BK292; clear BK298; clear HO324; clear HK; clear HB; clear HI0; have HO_293002 := n0_; have BK287 := n1_; have BK292 := n2_; have BK298 := n3_; have HO324 := n4_; have HK := n5_; have HB := n6_; have HI0 := n7_; clear n0_ n1_ n2_ n3_ n4_ n5_ n6_ n7_; (try clear hb); (try clear hb2); (try clear hk); (try clear hi); obtain ⟨Ao89, co89, eo89⟩ := Kd.R_slice HO324.out; subst eo89; have p327 : 0 ≤ (t325 : Int) := of_decide_eq_true (by first | (with_reducible assumption) | assumption); have q327 : t325 < (y322.length : Int) := of_decide_eq_true (by first | (with_reducible assumption) | assumption); obtain ⟨ad327, e327, hx327_0⟩ := Kd.at_int (Kd.R_reads' HO324.out).2.2 t325 p327 q327; cases e327; replace p327 := eq_true p327; replace q327 := eq_true q327; have hcz90_0 : w88.cell? ⟨gb292, 0, none⟩ = some (.int .i64 (wrap64 (1 + t288))) := (blk_cell BK292.out 0).trans rfl; have hcz90_1 : w88.cell? ⟨gb292, 1, none⟩ = some (.int .i64 (wrap64 (1 + t290))) := (blk_cell BK292.out 1).trans rfl; have hcz90_2 : w88.cell? ⟨gb292, 2, none⟩ = some (u293002) := (blk_cell BK292.out 2).trans rfl; have hfz90_0 := blk_frozen BK292.out 0; have hfz90_1 := blk_frozen BK292.out 1; have hfz90_2 := blk_frozen BK292.out 2; have hnb91 := NB287_298.out; have hnc91 := NB298_287.out; have hnb92 := NB287_0.out; have hnc92 := NB0_287.out; have hcz93_0 : w88.cell? ⟨gb287, 0, none⟩ = some (.int .i64 0) := (blk_cell BK287.out 0).trans rfl; have hcz93_1 : w88.cell? ⟨gb287, 1, none⟩ = some (.int .i64 0) := (blk_cell BK287.out 1).trans rfl; have hcz93_2 : w88.cell? ⟨gb287, 2, none⟩ = some (.slice none 0 0) := (blk_cell BK287.out 2).trans rfl; have hfz93_0 := blk_frozen BK287.out 0; have hfz93_1 := blk_frozen BK287.out 1; have hfz93_2 := blk_frozen BK287.out 2; obtain ⟨Ao94, co94, eo94, _⟩ := Kd.Q_slice HO_293002.out; subst eo94))
         refine bodyPost_ret (results_cell_row rfl _ _ gb287 36 #[.int .i64 (wrap64 (1 + t288)), .int .i64 (rd y322 t325), .slice Ao94 x293002_1.length co94] (0, 0) _ rfl (by (with_reducible repeat (first | refine blk_drewN ?_ _ | refine blk_drew ?_ | refine blk_alloc ?_ _)); refine blk_put (cs := #[.int .i64 (wrap64 (1 + t288)), .int .i64 (rd y322 t325), .slice none 0 0]) ?_ 2 _ rfl; (with_reducible repeat (first | refine blk_drewN ?_ _ | refine blk_drew ?_ | refine blk_alloc ?_ _)); refine blk_put (cs := #[.int .i64 (wrap64 (1 + t288)), .int .i64 0, .slice none 0 0]) ?_ 1 _ rfl; (with_reducible repeat (first | refine blk_drewN ?_ _ | refine blk_drew ?_ | refine blk_alloc ?_ _)); refine blk_put (cs := #[.int .i64 0, .int .i64 0, .slice none 0 0]) ?_ 0 _ rfl; (with_reducible repeat (first | refine blk_drewN ?_ _ | refine blk_drew ?_ | refine blk_alloc ?_ _)); refine blk_far ?_ NB287_292.out _; (with_reducible repeat (first | refine blk_drewN ?_ _ | refine blk_drew ?_ | refine blk_alloc ?_ _)); exact BK287.out) Try.underlying36 rfl (by kernel_rfl)) rfl ?_
         exact ⟨_, by first | rfl | (simp [errW_none, errW_some] <;> rfl) | (simp [*, errW_none, errW_some] <;> rfl), by (with_reducible repeat (first | apply Kd.Q_alloc | apply Kd.Q_drewN | apply Kd.Q_drew)); exact Kd.Q_mono (Kd.Q_far (p := ⟨gb287, 2, none⟩) (Kd.Q_far (p := ⟨gb287, 1, none⟩) (Kd.Q_far (p := ⟨gb287, 0, none⟩) (Kd.Q_far (p := ⟨gb292, 1, none⟩) (Kd.Q_types (Kd.Q_types HO_293002.out BK292.out (by decide)) BK287.out (by decide)) (fun _ hk => hk.1.2) (.int .i64 (rd y322 t325))) (fun _ hk => hk.2) (.int .i64 (wrap64 (1 + t288)))) (fun _ hk => hk.2) (.int .i64 (rd y322 t325))) (fun _ hk => hk.2) (.slice Ao94 x293002_1.length co94)) (fun _ hk => trivial), by repeat (first | (with_reducible first | exact HI0.out | apply IsS82.alloc | apply IsS82.drewN | apply IsS82.drew | apply IsS82.set_1 | refine IsS82.far ?_ NB0_287.out _ | refine IsS82.far ?_ NB0_292.out _ | refine IsS82.far ?_ NB0_298.out _) | exact HI0.out), by repeat (first | (with_reducible first | exact HB.out | apply below_alloc | apply pw_below_drewN | apply below_drew1 | refine below_set ?_ (IsS82.ge HI0.out) | refine below_set ?_ GE287.out | refine below_set ?_ GE292.out | refine below_set ?_ GE298.out) | exact HB.out), by repeat (first | (with_reducible first | exact HK.out | apply KeepBut.set_ | apply keep_drewN | apply keep_drew | apply keep_alloc | refine keep_far ?_ GW287.out _ | refine keep_far ?_ GW292.out _ | refine keep_far ?_ GW298.out _) | exact HK.out)⟩
        ·rw [if_neg c79] at H
         exact absurd H (by simp)
       ·rw [if_neg c78] at H
        exact absurd H (by simp)
      ·rw [if_neg c76] at H
       have c76b0 : (t314 == 1) = false := beq_eq_false_iff_ne.mpr c76
       have c76b1 : (t314 != 1) = true := bne_iff_ne.mpr c76
       by_cases c95 : t314 = 2
       ·rw [if_pos c95] at H
        have c95b0 : (t314 == 2) = true := beq_iff_eq.mpr c95
        have c95b1 : (t314 != 2) = false := bne_eq_false_iff_eq.mpr c95
        clear c95
        by_cases c96 : 1 ≤ (x293002_1.length : Int)
        ·rw [if_pos c96] at H
         have c96b0 := eq_true c96
         have c96b1 : decide (1 ≤ (x293002_1.length : Int)) = true := decide_eq_true c96
         clear c96
         obtain ⟨y328, hy328⟩ : ∃ y_ : List (S39), y_ = (x293002_1.drop (1 : Int).toNat) := ⟨_, rfl⟩
         replace H : (some ((wrap64 (1 + t288)), (wrap64 (1 + t290)), y328, t315)) = some (r1, r2, r3, r4) := by first | (rw [hy328]; with_reducible exact H) | (have H2_ := (Option.bind_some _ _).symm.trans H; rw [hy328]; with_reducible exact H2_) | (have H2_ := (Option.bind_some _ _).symm.trans H; with_reducible exact H2_) | with_reducible exact H | (rw [hy328]; exact H) | exact H
         have Ny328 := Aside0.mk hy328
         clear hy328
         simp only [Option.some.injEq, Prod.mk.injEq] at H
         obtain ⟨rfl, rfl, rfl, rfl⟩ := H
         have hnb97 := NB292_287.out
         have hnc97 := NB287_292.out
         have hnb98 := NB292_298.out
         have hnc98 := NB298_292.out
         have hnb99 := NB292_0.out
         have hnc99 := NB0_292.out
         have hcz100_0 : wr.cell? ⟨gb292, 0, none⟩ = some (.int .i64 (wrap64 (1 + t288))) := (blk_cell BK292.out 0).trans rfl
         have hcz100_1 : wr.cell? ⟨gb292, 1, none⟩ = some (.int .i64 (wrap64 (1 + t290))) := (blk_cell BK292.out 1).trans rfl
         have hcz100_2 : wr.cell? ⟨gb292, 2, none⟩ = some (u293002) := (blk_cell BK292.out 2).trans rfl
         have hfz100_0 := blk_frozen BK292.out 0
         have hfz100_1 := blk_frozen BK292.out 1
         have hfz100_2 := blk_frozen BK292.out 2
         go_wp2_with (first | ((with_reducible refine gate_callee (f := 63) rfl ?_); refine goesL_ (some 39) rfl rfl Try.func63 (by kernel_rfl) rfl #[.pointer (some ⟨g, 0, none⟩), .int .i64 a1] rfl (by (try simp only [List.map_toArray, List.map_cons, List.map_nil]); first | done | rfl | (simp only [List.length_drop, List.length_take]; rfl)) ?_; (with_reducible refine (spec_l20Rd_odd.calls k1 g s0_0 x1001_1 a1 true t313 w0 _ ?side1 ?side2 A50.out).mono ?_); (case side1 => repeat (first | (with_reducible first | exact HI0.out | apply IsS82.alloc | apply IsS82.drewN | apply IsS82.drew | apply IsS82.set_1 | refine IsS82.far ?_ NB0_287.out _ | refine IsS82.far ?_ NB0_292.out _ | refine IsS82.far ?_ NB0_298.out _) | exact HI0.out)); (case side2 => repeat (first | (with_reducible first | exact HB.out | apply below_alloc | apply pw_below_drewN | apply below_drew1 | refine below_set ?_ (IsS82.ge HI0.out) | refine below_set ?_ GE287.out | refine below_set ?_ GE292.out | refine below_set ?_ GE298.out) | exact HB.out)); rintro e w101 ⟨rfl, hi, hb, hk⟩; refine ⟨_, rfl, ?_⟩; have n0_ := Aside0.mk (Kd.Q_mono (Kd.Q_keep (IsS82.apartQ (show IsS82 w0 _ g s0_0 x1001_1 from by repeat (first | (with_reducible first | exact HI0.out | apply IsS82.alloc | apply IsS82.drewN | apply IsS82.drew | apply IsS82.set_1 | refine IsS82.far ?_ NB0_287.out _ | refine IsS82.far ?_ NB0_292.out _ | refine IsS82.far ?_ NB0_298.out _) | exact HI0.out)) (by (with_reducible repeat (first | apply Kd.Q_alloc | apply Kd.Q_drewN | apply Kd.Q_drew)); exact HO_293002.out) (by decide)) hk (fun _ h => h.2)) (fun _ h => h.1)); have n1_ := Aside0.mk (KeepBut.blk hk (g' := gb287) (o := .cells #[.int .i64 0, .int .i64 0, .slice none 0 0] 36 (0, 0)) (by (with_reducible repeat (first | refine blk_drewN ?_ _ | refine blk_drew ?_ | refine blk_alloc ?_ _)); exact BK287.out) NB287_0.out (by simp)); have n2_ := Aside0.mk (KeepBut.blk hk (g' := gb292) (o := .cells #[.int .i64 (wrap64 (1 + t288)), .int .i64 (wrap64 (1 + t290)), u293002] 36 (0, 0)) (by (with_reducible repeat (first | refine blk_drewN ?_ _ | refine blk_drew ?_ | refine blk_alloc ?_ _)); exact BK292.out) NB292_0.out (by simp)); have n3_ := Aside0.mk (KeepBut.blk hk (g' := gb298) (o := .cells #[.int .i64 x299000_1, .int .i64 x299001_1, .int .i64 x299002_1, .int .i64 x299003_1] 39 (0, 0)) (by (with_reducible repeat (first | refine blk_drewN ?_ _ | refine blk_drew ?_ | refine blk_alloc ?_ _)); exact BK298.out) NB298_0.out (by simp)); have n4_ := Aside0.mk (KeepBut.trans (by repeat (first | (with_reducible first | exact HK.out | apply KeepBut.set_ | apply keep_drewN | apply keep_drew | apply keep_alloc | refine keep_far ?_ GW287.out _ | refine keep_far ?_ GW292.out _ | refine keep_far ?_ GW298.out _) | exact HK.out)) hk (.inl rfl)); have n5_ := Aside0.mk (hb); have n6_ := Aside0.mk (hi); clear HO_293002; clear BK287; clear BK292; clear BK298; clear HK; clear HB; clear HI0; have HO_293002 := n0_; have BK287 := n1_; have BK292 := n2_; have BK298 := n3_; have HK := n4_; have HB := n5_; have HI0 := n6_; clear n0_ n1_ n2_ n3_ n4_ n5_ n6_; (try clear hb); (try clear hb2); (try clear hk); (try clear hi)) | ((with_reducible refine gate_callee (f := 52) rfl ?_); refine goesL_ (some 41) rfl rfl Try.func52 (by kernel_rfl) rfl #[.pointer (some ⟨g, 0, none⟩), .int .i64 4] rfl (by (try simp only [List.map_toArray, List.map_cons, List.map_nil]); first | done | rfl | (simp only [List.length_drop, List.length_take]; rfl)) ?_; (with_reducible refine (spec_l20Rd_pick.calls k1 g s0_0 t313 4 t314 t315 w0 _ ?side1 ?side2 A52.out).mono ?_); (case side1 => repeat (first | (with_reducible first | exact HI0.out | apply IsS82.alloc | apply IsS82.drewN | apply IsS82.drew | apply IsS82.set_1 | refine IsS82.far ?_ NB0_287.out _ | refine IsS82.far ?_ NB0_292.out _ | refine IsS82.far ?_ NB0_298.out _) | exact HI0.out)); (case side2 => repeat (first | (with_reducible first | exact HB.out | apply below_alloc | apply pw_below_drewN | apply below_drew1 | refine below_set ?_ (IsS82.ge HI0.out) | refine below_set ?_ GE287.out | refine below_set ?_ GE292.out | refine below_set ?_ GE298.out) | exact HB.out)); rintro e w102 ⟨rfl, hi, hb, hk⟩; refine ⟨_, rfl, ?_⟩; have n0_ := Aside0.mk (Kd.Q_mono (Kd.Q_keep (IsS82.apartQ (show IsS82 w0 _ g s0_0 t313 from by repeat (first | (with_reducible first | exact HI0.out | apply IsS82.alloc | apply IsS82.drewN | apply IsS82.drew | apply IsS82.set_1 | refine IsS82.far ?_ NB0_287.out _ | refine IsS82.far ?_ NB0_292.out _ | refine IsS82.far ?_ NB0_298.out _) | exact HI0.out)) (by (with_reducible repeat (first | apply Kd.Q_alloc | apply Kd.Q_drewN | apply Kd.Q_drew)); exact HO_293002.out) (by decide)) hk (fun _ h => h.2)) (fun _ h => h.1)); have n1_ := Aside0.mk (KeepBut.blk hk (g' := gb287) (o := .cells #[.int .i64 0, .int .i64 0, .slice none 0 0] 36 (0, 0)) (by (with_reducible repeat (first | refine blk_drewN ?_ _ | refine blk_drew ?_ | refine blk_alloc ?_ _)); exact BK287.out) NB287_0.out (by simp)); have n2_ := Aside0.mk (KeepBut.blk hk (g' := gb292) (o := .cells #[.int .i64 (wrap64 (1 + t288)), .int .i64 (wrap64 (1 + t290)), u293002] 36 (0, 0)) (by (with_reducible repeat (first | refine blk_drewN ?_ _ | refine blk_drew ?_ | refine blk_alloc ?_ _)); exact BK292.out) NB292_0.out (by simp)); have n3_ := Aside0.mk (KeepBut.blk hk (g' := gb298) (o := .cells #[.int .i64 x299000_1, .int .i64 x299001_1, .int .i64 x299002_1, .int .i64 x299003_1] 39 (0, 0)) (by (with_reducible repeat (first | refine blk_drewN ?_ _ | refine blk_drew ?_ | refine blk_alloc ?_ _)); exact BK298.out) NB298_0.out (by simp)); have n4_ := Aside0.mk (KeepBut.trans (by repeat (first | (with_reducible first | exact HK.out | apply KeepBut.set_ | apply keep_drewN | apply keep_drew | apply keep_alloc | refine keep_far ?_ GW287.out _ | refine keep_far ?_ GW292.out _ | refine keep_far ?_ GW298.out _) | exact HK.out)) hk (.inl rfl)); have n5_ := Aside0.mk (hb); have n6_ := Aside0.mk (hi); clear HO_293002; clear BK287; clear BK292; clear BK298; clear HK; clear HB; clear HI0; have HO_293002 := n0_; have BK287 := n1_; have BK292 := n2_; have BK298 := n3_; have HK := n4_; have HB := n5_; have HI0 := n6_; clear n0_ n1_ n2_ n3_ n4_ n5_ n6_; (try clear hb); (try clear hb2); (try clear hk); (try clear hi); have hcz103_0 : w102.cell? ⟨gb292, 0, none⟩ = some (.int .i64 (wrap64 (1 + t288))) := (blk_cell BK292.out 0).trans rfl; have hcz103_1 : w102.cell? ⟨gb292, 1, none⟩ = some (.int .i64 (wrap64 (1 + t290))) := (blk_cell BK292.out 1).trans rfl; have hcz103_2 : w102.cell? ⟨gb292, 2, none⟩ = some (u293002) := (blk_cell BK292.out 2).trans rfl; have hfz103_0 := blk_frozen BK292.out 0; have hfz103_1 := blk_frozen BK292.out 1; have hfz103_2 := blk_frozen BK292.out 2; obtain ⟨Ao104, co104, eo104, _⟩ := Kd.Q_slice HO_293002.out; subst eo104; have q105 : (1 : Int) ≤ ((x293002_1.length : Int) : Int) := of_decide_eq_true (by first | (with_reducible assumption) | assumption); obtain ⟨i0105, hi0105, _, hsz105, _⟩ := info_parts info39; have hcut105 := cut_from (P := Try.prog) 34 39 .i64 Try.underlying34 hi0105 4 hsz105 Ao104 x293002_1.length co104 1 (by omega) q105; have hr105 := Kd.Q_drop (k := (1 : Int).toNat) HO_293002.out (by omega); obtain ⟨A105, hA105⟩ : ∃ A1, A1 = (if co104 = (1 : Int).toNat then Ao104 else (Ao104 : Option Addr).map (·.add ((1 : Int).toNat * 4))) := ⟨_, rfl⟩; obtain ⟨c105, hc105⟩ : ∃ c1, c1 = co104 - (1 : Int).toNat := ⟨_, rfl⟩; have hy105 : y328.length = x293002_1.length - (1 : Int).toNat := (by rw [Ny328.out, List.length_drop]); rw [← Ny328.out] at hr105; rw [← hy105, ← hA105, ← hc105] at hcut105; replace hr105 : Kd.Q k39 39 w102 w.heap.size (fun k_ => k_ ≠ gb298) (.slice A105 y328.length c105) y328 := (by rw [hA105, hc105, hy105]; exact hr105); have HE105 : Aside0 ((Value.slice A105 y328.length c105).ownBlock = (.slice Ao104 x293002_1.length co104 : Value).ownBlock) := ⟨by rw [hA105]; split <;> (cases (Ao104 : Option Addr) <;> rfl)⟩; clear hy105 hi0105 hsz105 HO_293002 hA105 hc105; have HO330 := Aside0.mk hr105; clear hr105; replace q105 := eq_true q105; have hnb106 := NB287_298.out; have hnc106 := NB298_287.out; have hnb107 := NB287_0.out; have hnc107 := NB0_287.out; have hcz108_0 : w102.cell? ⟨gb287, 0, none⟩ = some (.int .i64 0) := (blk_cell BK287.out 0).trans rfl; have hcz108_1 : w102.cell? ⟨gb287, 1, none⟩ = some (.int .i64 0) := (blk_cell BK287.out 1).trans rfl; have hcz108_2 : w102.cell? ⟨gb287, 2, none⟩ = some (.slice none 0 0) := (blk_cell BK287.out 2).trans rfl; have hfz108_0 := blk_frozen BK287.out 0; have hfz108_1 := blk_frozen BK287.out 1; have hfz108_2 := blk_frozen BK287.out 2))
         refine bodyPost_ret (results_cell_row rfl _ _ gb287 36 #[.int .i64 (wrap64 (1 + t288)), .int .i64 (wrap64 (1 + t290)), .slice A105 y328.length c105] (0, 0) _ rfl (by (with_reducible repeat (first | refine blk_drewN ?_ _ | refine blk_drew ?_ | refine blk_alloc ?_ _)); refine blk_put (cs := #[.int .i64 (wrap64 (1 + t288)), .int .i64 (wrap64 (1 + t290)), .slice none 0 0]) ?_ 2 _ rfl; (with_reducible repeat (first | refine blk_drewN ?_ _ | refine blk_drew ?_ | refine blk_alloc ?_ _)); refine blk_put (cs := #[.int .i64 (wrap64 (1 + t288)), .int .i64 0, .slice none 0 0]) ?_ 1 _ rfl; (with_reducible repeat (first | refine blk_drewN ?_ _ | refine blk_drew ?_ | refine blk_alloc ?_ _)); refine blk_put (cs := #[.int .i64 0, .int .i64 0, .slice none 0 0]) ?_ 0 _ rfl; (with_reducible repeat (first | refine blk_drewN ?_ _ | refine blk_drew ?_ | refine blk_alloc ?_ _)); refine blk_far ?_ NB287_292.out _; (with_reducible repeat (first | refine blk_drewN ?_ _ | refine blk_drew ?_ | refine blk_alloc ?_ _)); exact BK287.out) Try.underlying36 rfl (by kernel_rfl)) rfl ?_
         exact ⟨_, by first | rfl | (simp [errW_none, errW_some] <;> rfl) | (simp [*, errW_none, errW_some] <;> rfl), by (with_reducible repeat (first | apply Kd.Q_alloc | apply Kd.Q_drewN | apply Kd.Q_drew)); exact Kd.Q_mono (Kd.Q_far (p := ⟨gb287, 2, none⟩) (Kd.Q_far (p := ⟨gb287, 1, none⟩) (Kd.Q_far (p := ⟨gb287, 0, none⟩) (Kd.Q_far (p := ⟨gb292, 2, none⟩) (Kd.Q_types (Kd.Q_types HO330.out BK292.out (by decide)) BK287.out (by decide)) (fun _ hk => hk.1.2) (.slice A105 y328.length c105)) (fun _ hk => hk.2) (.int .i64 (wrap64 (1 + t288)))) (fun _ hk => hk.2) (.int .i64 (wrap64 (1 + t290)))) (fun _ hk => hk.2) (.slice A105 y328.length c105)) (fun _ hk => trivial), by repeat (first | (with_reducible first | exact HI0.out | apply IsS82.alloc | apply IsS82.drewN | apply IsS82.drew | apply IsS82.set_1 | refine IsS82.far ?_ NB0_287.out _ | refine IsS82.far ?_ NB0_292.out _ | refine IsS82.far ?_ NB0_298.out _) | exact HI0.out), by repeat (first | (with_reducible first | exact HB.out | apply below_alloc | apply pw_below_drewN | apply below_drew1 | refine below_set ?_ (IsS82.ge HI0.out) | refine below_set ?_ GE287.out | refine below_set ?_ GE292.out | refine below_set ?_ GE298.out) | exact HB.out), by repeat (first | (with_reducible first | exact HK.out | apply KeepBut.set_ | apply keep_drewN | apply keep_drew | apply keep_alloc | refine keep_far ?_ GW287.out _ | refine keep_far ?_ GW292.out _ | refine keep_far ?_ GW298.out _) | exact HK.out)⟩
        ·rw [if_neg c96] at H
         exact absurd H (by simp)
       ·rw [if_neg c95] at H
        have c95b0 : (t314 == 2) = false := beq_eq_false_iff_ne.mpr c95
        have c95b1 : (t314 != 2) = true := bne_iff_ne.mpr c95
        replace H := Option.bind_eq_some_iff.mp H
        obtain ⟨⟨t331, t332⟩, A1090, H⟩ := H
        replace H : ((some (([(-1), 256] : List Int) : List Int)).bind fun y333 => ((spec_l20Rd_pick.f k1 s0_0 t332 2).bind fun bt336 => (if 0 ≤ bt336.1 then (if bt336.1 < (y333.length : Int) then (if 0 ≤ t331 then (if t331 < (x293002_1.length : Int) then (some ((wrap64 (1 + t288)), (wrap64 (1 + t290)), (x293002_1.set (t331 : Int).toNat (⟨(rd_T39 x293002_1 t331).f0, rd y333 bt336.1, (rd_T39 x293002_1 t331).f2, (rd_T39 x293002_1 t331).f3⟩ : S39)), bt336.2)) else (none)) else (none)) else (none)) else (none)))) = some (r1, r2, r3, r4) := H
        have A109 := Aside0.mk A1090
        clear A1090
        obtain ⟨y333, hy333⟩ : ∃ y_ : List Int, y_ = (([(-1), 256] : List Int)) := ⟨_, rfl⟩
        replace H : ((spec_l20Rd_pick.f k1 s0_0 t332 2).bind fun bt336 => (if 0 ≤ bt336.1 then (if bt336.1 < (y333.length : Int) then (if 0 ≤ t331 then (if t331 < (x293002_1.length : Int) then (some ((wrap64 (1 + t288)), (wrap64 (1 + t290)), (x293002_1.set (t331 : Int).toNat (⟨(rd_T39 x293002_1 t331).f0, rd y333 bt336.1, (rd_T39 x293002_1 t331).f2, (rd_T39 x293002_1 t331).f3⟩ : S39)), bt336.2)) else (none)) else (none)) else (none)) else (none))) = some (r1, r2, r3, r4) := by first | (rw [hy333]; with_reducible exact H) | (have H2_ := (Option.bind_some _ _).symm.trans H; rw [hy333]; with_reducible exact H2_) | (have H2_ := (Option.bind_some _ _).symm.trans H; with_reducible exact H2_) | with_reducible exact H | (rw [hy333]; exact H) | exact H
        have Ny333 := Aside0.mk hy333
        clear hy333
        replace H := Option.bind_eq_some_iff.mp H
        obtain ⟨⟨t336, t337⟩, A1100, H⟩ := H
        replace H : (if 0 ≤ t336 then (if t336 < (y333.length : Int) then (if 0 ≤ t331 then (if t331 < (x293002_1.length : Int) then (some ((wrap64 (1 + t288)), (wrap64 (1 + t290)), (x293002_1.set (t331 : Int).toNat (⟨(rd_T39 x293002_1 t331).f0, rd y333 t336, (rd_T39 x293002_1 t331).f2, (rd_T39 x293002_1 t331).f3⟩ : S39)), t337)) else (none)) else (none)) else (none)) else (none)) = some (r1, r2, r3, r4) := H
        have A110 := Aside0.mk A1100
        clear A1100
        by_cases c111 : 0 ≤ t336
        ·rw [if_pos c111] at H
         have c111b0 : decide (0 ≤ t336) = true := decide_eq_true c111
         clear c111
         by_cases c112 : t336 < (y333.length : Int)
         ·rw [if_pos c112] at H
          have c112b0 : decide (t336 < (y333.length : Int)) = true := decide_eq_true c112
          clear c112
          by_cases c113 : 0 ≤ t331
          ·rw [if_pos c113] at H
           have c113b0 : decide (0 ≤ t331) = true := decide_eq_true c113
           clear c113
           by_cases c114 : t331 < (x293002_1.length : Int)
           ·rw [if_pos c114] at H
            have c114b0 : decide (t331 < (x293002_1.length : Int)) = true := decide_eq_true c114
            clear c114
            obtain ⟨y339, hy339⟩ : ∃ y_ : List (S39), y_ = (x293002_1.set (t331 : Int).toNat (⟨(rd_T39 x293002_1 t331).f0, rd y333 t336, (rd_T39 x293002_1 t331).f2, (rd_T39 x293002_1 t331).f3⟩ : S39)) := ⟨_, rfl⟩
            replace H : (some ((wrap64 (1 + t288)), (wrap64 (1 + t290)), y339, t337)) = some (r1, r2, r3, r4) := by first | (rw [hy339]; with_reducible exact H) | (have H2_ := (Option.bind_some _ _).symm.trans H; rw [hy339]; with_reducible exact H2_) | (have H2_ := (Option.bind_some _ _).symm.trans H; with_reducible exact H2_) | with_reducible exact H | (rw [hy339]; exact H) | exact H
            have Ny339 := Aside0.mk hy339
            clear hy339
            simp only [Option.some.injEq, Prod.mk.injEq] at H
            obtain ⟨rfl, rfl, rfl, rfl⟩ := H
            have hnb116 := NB292_287.out
            have hnc116 := NB287_292.out
            have hnb117 := NB292_298.out
            have hnc117 := NB298_292.out
            have hnb118 := NB292_0.out
            have hnc118 := NB0_292.out
            have hcz119_0 : wr.cell? ⟨gb292, 0, none⟩ = some (.int .i64 (wrap64 (1 + t288))) := (blk_cell BK292.out 0).trans rfl
            have hcz119_1 : wr.cell? ⟨gb292, 1, none⟩ = some (.int .i64 (wrap64 (1 + t290))) := (blk_cell BK292.out 1).trans rfl
            have hcz119_2 : wr.cell? ⟨gb292, 2, none⟩ = some (u293002) := (blk_cell BK292.out 2).trans rfl
            have hfz119_0 := blk_frozen BK292.out 0
            have hfz119_1 := blk_frozen BK292.out 1
            have hfz119_2 := blk_frozen BK292.out 2
            try go_wp2_with (first | ((with_reducible refine gate_callee (f := 63) rfl ?_); refine goesL_ (some 39) rfl rfl Try.func63 (by kernel_rfl) rfl #[.pointer (some ⟨g, 0, none⟩), .int .i64 a1] rfl (by (try simp only [List.map_toArray, List.map_cons, List.map_nil]); first | done | rfl | (simp only [List.length_drop, List.length_take]; rfl)) ?_; (with_reducible refine (spec_l20Rd_odd.calls k1 g s0_0 x1001_1 a1 true t313 w0 _ ?side1 ?side2 A50.out).mono ?_); (case side1 => repeat (first | (with_reducible first | exact HI0.out | apply IsS82.alloc | apply IsS82.drewN | apply IsS82.drew | apply IsS82.set_1 | refine IsS82.far ?_ NB0_287.out _ | refine IsS82.far ?_ NB0_292.out _ | refine IsS82.far ?_ NB0_298.out _) | exact HI0.out)); (case side2 => repeat (first | (with_reducible first | exact HB.out | apply below_alloc | apply pw_below_drewN | apply below_drew1 | refine below_set ?_ (IsS82.ge HI0.out) | refine below_set ?_ GE287.out | refine below_set ?_ GE292.out | refine below_set ?_ GE298.out) | exact HB.out)); rintro e w120 ⟨rfl, hi, hb, hk⟩; refine ⟨_, rfl, ?_⟩; have n0_ := Aside0.mk (Kd.Q_mono (Kd.Q_keep (IsS82.apartQ (show IsS82 w0 _ g s0_0 x1001_1 from by repeat (first | (with_reducible first | exact HI0.out | apply IsS82.alloc | apply IsS82.drewN | apply IsS82.drew | apply IsS82.set_1 | refine IsS82.far ?_ NB0_287.out _ | refine IsS82.far ?_ NB0_292.out _ | refine IsS82.far ?_ NB0_298.out _) | exact HI0.out)) (by (with_reducible repeat (first | apply Kd.Q_alloc | apply Kd.Q_drewN | apply Kd.Q_drew)); exact HO_293002.out) (by decide)) hk (fun _ h => h.2)) (fun _ h => h.1)); have n1_ := Aside0.mk (KeepBut.blk hk (g' := gb287) (o := .cells #[.int .i64 0, .int .i64 0, .slice none 0 0] 36 (0, 0)) (by (with_reducible repeat (first | refine blk_drewN ?_ _ | refine blk_drew ?_ | refine blk_alloc ?_ _)); exact BK287.out) NB287_0.out (by simp)); have n2_ := Aside0.mk (KeepBut.blk hk (g' := gb292) (o := .cells #[.int .i64 (wrap64 (1 + t288)), .int .i64 (wrap64 (1 + t290)), u293002] 36 (0, 0)) (by (with_reducible repeat (first | refine blk_drewN ?_ _ | refine blk_drew ?_ | refine blk_alloc ?_ _)); exact BK292.out) NB292_0.out (by simp)); have n3_ := Aside0.mk (KeepBut.blk hk (g' := gb298) (o := .cells #[.int .i64 x299000_1, .int .i64 x299001_1, .int .i64 x299002_1, .int .i64 x299003_1] 39 (0, 0)) (by (with_reducible repeat (first | refine blk_drewN ?_ _ | refine blk_drew ?_ | refine blk_alloc ?_ _)); exact BK298.out) NB298_0.out (by simp)); have n4_ := Aside0.mk (KeepBut.trans (by repeat (first | (with_reducible first | exact HK.out | apply KeepBut.set_ | apply keep_drewN | apply keep_drew | apply keep_alloc | refine keep_far ?_ GW287.out _ | refine keep_far ?_ GW292.out _ | refine keep_far ?_ GW298.out _) | exact HK.out)) hk (.inl rfl)); have n5_ := Aside0.mk (hb); have n6_ := Aside0.mk (hi); clear HO_293002; clear BK287; clear BK292; clear BK298; clear HK; clear HB; clear HI0; have HO_293002 := n0_; have BK287 := n1_; have BK292 := n2_; have BK298 := n3_; have HK := n4_; have HB := n5_; have HI0 := n6_; clear n0_ n1_ n2_ n3_ n4_ n5_ n6_; (try clear hb); (try clear hb2); (try clear hk); (try clear hi)) | ((with_reducible refine gate_callee (f := 52) rfl ?_); refine goesL_ (some 41) rfl rfl Try.func52 (by kernel_rfl) rfl #[.pointer (some ⟨g, 0, none⟩), .int .i64 4] rfl (by (try simp only [List.map_toArray, List.map_cons, List.map_nil]); first | done | rfl | (simp only [List.length_drop, List.length_take]; rfl)) ?_; (with_reducible refine (spec_l20Rd_pick.calls k1 g s0_0 t313 4 t314 t315 w0 _ ?side1 ?side2 A52.out).mono ?_); (case side1 => repeat (first | (with_reducible first | exact HI0.out | apply IsS82.alloc | apply IsS82.drewN | apply IsS82.drew | apply IsS82.set_1 | refine IsS82.far ?_ NB0_287.out _ | refine IsS82.far ?_ NB0_292.out _ | refine IsS82.far ?_ NB0_298.out _) | exact HI0.out)); (case side2 => repeat (first | (with_reducible first | exact HB.out | apply below_alloc | apply pw_below_drewN | apply below_drew1 | refine below_set ?_ (IsS82.ge HI0.out) | refine below_set ?_ GE287.out | refine below_set ?_ GE292.out | refine below_set ?_ GE298.out) | exact HB.out)); rintro e w121 ⟨rfl, hi, hb, hk⟩; refine ⟨_, rfl, ?_⟩; have n0_ := Aside0.mk (Kd.Q_mono (Kd.Q_keep (IsS82.apartQ (show IsS82 w0 _ g s0_0 t313 from by repeat (first | (with_reducible first | exact HI0.out | apply IsS82.alloc | apply IsS82.drewN | apply IsS82.drew | apply IsS82.set_1 | refine IsS82.far ?_ NB0_287.out _ | refine IsS82.far ?_ NB0_292.out _ | refine IsS82.far ?_ NB0_298.out _) | exact HI0.out)) (by (with_reducible repeat (first | apply Kd.Q_alloc | apply Kd.Q_drewN | apply Kd.Q_drew)); exact HO_293002.out) (by decide)) hk (fun _ h => h.2)) (fun _ h => h.1)); have n1_ := Aside0.mk (KeepBut.blk hk (g' := gb287) (o := .cells #[.int .i64 0, .int .i64 0, .slice none 0 0] 36 (0, 0)) (by (with_reducible repeat (first | refine blk_drewN ?_ _ | refine blk_drew ?_ | refine blk_alloc ?_ _)); exact BK287.out) NB287_0.out (by simp)); have n2_ := Aside0.mk (KeepBut.blk hk (g' := gb292) (o := .cells #[.int .i64 (wrap64 (1 + t288)), .int .i64 (wrap64 (1 + t290)), u293002] 36 (0, 0)) (by (with_reducible repeat (first | refine blk_drewN ?_ _ | refine blk_drew ?_ | refine blk_alloc ?_ _)); exact BK292.out) NB292_0.out (by simp)); have n3_ := Aside0.mk (KeepBut.blk hk (g' := gb298) (o := .cells #[.int .i64 x299000_1, .int .i64 x299001_1, .int .i64 x299002_1, .int .i64 x299003_1] 39 (0, 0)) (by (with_reducible repeat (first | refine blk_drewN ?_ _ | refine blk_drew ?_ | refine blk_alloc ?_ _)); exact BK298.out) NB298_0.out (by simp)); have n4_ := Aside0.mk (KeepBut.trans (by repeat (first | (with_reducible first | exact HK.out | apply KeepBut.set_ | apply keep_drewN | apply keep_drew | apply keep_alloc | refine keep_far ?_ GW287.out _ | refine keep_far ?_ GW292.out _ | refine keep_far ?_ GW298.out _) | exact HK.out)) hk (.inl rfl)); have n5_ := Aside0.mk (hb); have n6_ := Aside0.mk (hi); clear HO_293002; clear BK287; clear BK292; clear BK298; clear HK; clear HB; clear HI0; have HO_293002 := n0_; have BK287 := n1_; have BK292 := n2_; have BK298 := n3_; have HK := n4_; have HB := n5_; have HI0 := n6_; clear n0_ n1_ n2_ n3_ n4_ n5_ n6_; (try clear hb); (try clear hb2); (try clear hk); (try clear hi)))
            have pi338 : (0 ≤ (t336 : Int)) = True := eq_true (of_decide_eq_true (by first | (with_reducible assumption) | assumption))
            have qi338 : (t336 < (y333.length : Int)) = True := eq_true (of_decide_eq_true (by first | (with_reducible assumption) | assumption))
            have n0_ := Aside0.mk (Kd.Q_drew HO_293002.out)
            have n1_ := Aside0.mk (blk_drew BK287.out)
            have n2_ := Aside0.mk (blk_drew BK292.out)
            have n3_ := Aside0.mk (blk_drew BK298.out)
            have n4_ := Aside0.mk (IsS82.drew HI0.out)
            have n5_ := Aside0.mk (keep_drew HK.out)
            have n6_ := Aside0.mk (below_drew1 HB.out)
            clear HO_293002
            clear BK287
            clear BK292
            clear BK298
            clear HI0
            clear HK
            clear HB
            have HO_293002 := n0_
            have BK287 := n1_
            have BK292 := n2_
            have BK298 := n3_
            have HI0 := n4_
            have HK := n5_
            have HB := n6_
            clear n0_ n1_ n2_ n3_ n4_ n5_ n6_
            obtain ⟨Ao123, co123, eo123, _⟩ := Kd.Q_slice HO_293002.out
            (first | subst eo123 | (injection eo123 with f1_ f2_ f3_; have f4_ := f1_.symm; have f5_ := f3_.symm; clear f1_ f2_ f3_; subst f4_; subst f5_))
            refine start_ (n := 15) (S := fun w' => w'.cell? ⟨gb292, 0, none⟩ = some (.int .i64 (wrap64 (1 + t288))) ∧ w'.cell? ⟨gb292, 1, none⟩ = some (.int .i64 (wrap64 (1 + t290))) ∧ w'.cell? ⟨gb292, 2, none⟩ = some (.slice Ao123 x293002_1.length co123)) (ds := [14]) #[false, false, false, false, false, false, false, false, false, false, false, false, false, false, false] (by kernel_rfl) rfl rfl ⟨(blk_cell BK292.out 0).trans rfl, (blk_cell BK292.out 1).trans rfl, (blk_cell BK292.out 2).trans rfl⟩ (fun hHeld => ?_); refine with_tabW spec_l20Ras.tab11 spec_l20Ras.bits11 (fun HT_ HW_ => ?_)
            generalize w121.drew = w122 at HO_293002 BK287 BK292 BK298 HI0 HK HB hHeld ⊢
            refine pure_ (i := 0) (N := some 42) (v := ?_) (a' := ?_) #[true, false, false, false, false, false, false, false, false, false, false, false, false, false, false] rfl rfl (any_of HT_.out (by kernel_rfl)) (fun _ _ _ h => h) (Or.inl ⟨by rfl, ?_⟩) ?_ ?_
            rotate_left
            ·intro w'
             go_simp
             with_reducible rfl
            rotate_left
            ·simp only [Act.put, List.setIfInBounds_toArray, List.set_cons_zero, List.set_cons_succ, i64_w, i32_w]
             rfl
            refine pure_ (i := 2) (N := some 44) (v := ?_) (a' := ?_) #[true, false, true, false, false, false, false, false, false, false, false, false, false, false, false] rfl rfl (any_of HT_.out (by kernel_rfl)) (fun _ _ _ h => h) (Or.inl ⟨by rfl, ?_⟩) ?_ ?_
            rotate_left
            ·intro w'
             go_simp
             with_reducible rfl
            rotate_left
            ·simp only [Act.put, List.setIfInBounds_toArray, List.set_cons_zero, List.set_cons_succ, i64_w, i32_w]
             rfl
            refine pure_ (i := 3) (N := some 45) (v := ?_) (a' := ?_) #[true, false, true, true, false, false, false, false, false, false, false, false, false, false, false] rfl rfl (any_of HT_.out (by kernel_rfl)) (fun _ _ _ h => h) (Or.inl ⟨by rfl, ?_⟩) ?_ ?_
            rotate_left
            ·intro w'
             go_simp
             with_reducible rfl
            rotate_left
            ·simp only [Act.put, List.setIfInBounds_toArray, List.set_cons_zero, List.set_cons_succ, i64_w, i32_w]
             rfl
            refine pure_ (i := 8) (N := some 50) (v := ?_) (a' := ?_) #[true, false, true, true, false, false, false, false, true, false, false, false, false, false, false] rfl rfl (any_of HT_.out (by kernel_rfl)) (fun _ _ _ h => h) (Or.inl ⟨by rfl, ?_⟩) ?_ ?_
            rotate_left
            ·intro w'
             go_simp
             with_reducible rfl
            rotate_left
            ·simp only [Act.put, List.setIfInBounds_toArray, List.set_cons_zero, List.set_cons_succ, i64_w, i32_w]
             rfl
            refine take_ (i := 1) (N := some 43) (v := ?_) (a' := ?_) #[true, true, true, true, false, false, false, false, true, false, false, false, false, false, false] rfl rfl (take_ofW HT_.out HW_.out (by kernel_rfl)) (fun _ _ _ h => h) (Or.inl ⟨by rfl, ?_⟩) hHeld ?_ ?_
            rotate_left
            ·rintro w' ⟨s0, s1, s2⟩
             go_simp
             with_reducible rfl
            rotate_left
            ·simp only [Act.put, List.setIfInBounds_toArray, List.set_cons_zero, List.set_cons_succ, i64_w, i32_w]
             rfl
            refine take_ (i := 4) (N := some 46) (v := ?_) (a' := ?_) #[true, true, true, true, true, false, false, false, true, false, false, false, false, false, false] rfl rfl (take_ofW HT_.out HW_.out (by kernel_rfl)) (fun _ _ _ h => h) (Or.inl ⟨by rfl, ?_⟩) hHeld ?_ ?_
            rotate_left
            ·rintro w' ⟨s0, s1, s2⟩
             go_simp
             with_reducible rfl
            rotate_left
            ·simp only [Act.put, List.setIfInBounds_toArray, List.set_cons_zero, List.set_cons_succ, i64_w, i32_w]
             rfl
            refine pure_ (i := 5) (N := some 47) (v := ?_) (a' := ?_) #[true, true, true, true, true, true, false, false, true, false, false, false, false, false, false] rfl rfl (any_of HT_.out (by kernel_rfl)) (fun _ _ _ h => h) (Or.inl ⟨by rfl, ?_⟩) ?_ ?_
            rotate_left
            ·intro w'
             go_simp
             with_reducible rfl
            rotate_left
            ·simp only [Act.put, List.setIfInBounds_toArray, List.set_cons_zero, List.set_cons_succ, i64_w, i32_w]
             rfl
            refine join_ (σ := Value × Addr) 5 #[true, true, true, true, true, true, true, true, true, true, false, false, false, false, false] (fun s_ => [(48, .int .i64 t331), (49, s_.1), (51, .int .i64 t336)]) (fun s_ w' => (w'.cell? ⟨gb292, 0, none⟩ = some (.int .i64 (wrap64 (1 + t288))) ∧ w'.cell? ⟨gb292, 1, none⟩ = some (.int .i64 (wrap64 (1 + t290))) ∧ w'.cell? ⟨gb292, 2, none⟩ = some (.slice Ao123 x293002_1.length co123)) ∧ (Kd.R (Kd.int .i64) 3 w' w.heap.size (fun _ => True) s_.1 y333) ∧ (Kd.Q k39 39 w' w.heap.size (fun k_ => k_ ≠ gb298) (.slice Ao123 x293002_1.length co123) x293002_1) ∧ (∃ c_, (s_.1 : Value) = .slice (some s_.2) y333.length c_) ∧ (w'.heap[gb287]? = some (.cells #[.int .i64 0, .int .i64 0, .slice none 0 0] 36 (0, 0))) ∧ (w'.heap[gb292]? = some (.cells #[.int .i64 (wrap64 (1 + t288)), .int .i64 (wrap64 (1 + t290)), .slice Ao123 x293002_1.length co123] 36 (0, 0))) ∧ (w'.heap[gb298]? = some (.cells #[.int .i64 x299000_1, .int .i64 x299001_1, .int .i64 x299002_1, .int .i64 x299003_1] 39 (0, 0))) ∧ (IsS82 w0 w' g s0_0 t337) ∧ (KeepBut w w' g none) ∧ (Below w0.heap.size w0 w')) ?_ ?_
            rotate_left
            ·intro hCont
             refine two_ (i := 6) (j := 7) (Ni := some 48) (Nj := some 49) #[true, true, true, true, true, true, true, false, true, false, false, false, false, false, false] #[true, true, true, true, true, true, false, true, true, false, false, false, false, false, false] rfl rfl rfl rfl (two_of HT_.out (by kernel_rfl)) (by decide) (by decide) (fun K hK => ?_) (fun K hK => ?_)
             ·skip
              refine goes_ Try.func52 (by kernel_rfl) rfl #[.pointer (some ⟨g, 0, none⟩), .int .i64 (x293002_1.length : Int)] (by rfl) rfl rfl (by (try simp only [List.map_toArray, List.map_cons, List.map_nil]); first | done | rfl | (simp only [List.length_drop, List.length_take]; rfl)) ?_
              with_reducible refine (spec_l20Rd_pick.calls k1 g s0_0 t315 (x293002_1.length : Int) t331 t332 w0 _ ?side1 ?side2 A109.out).mono ?_
              (case side1 => repeat (first | (with_reducible first | exact HI0.out | apply IsS82.alloc | apply IsS82.drewN | apply IsS82.drew | apply IsS82.set_1 | refine IsS82.far ?_ NB0_287.out _ | refine IsS82.far ?_ NB0_292.out _ | refine IsS82.far ?_ NB0_298.out _) | exact HI0.out))
              (case side2 => repeat (first | (with_reducible first | exact HB.out | apply below_alloc | apply pw_below_drewN | apply below_drew1 | refine below_set ?_ (IsS82.ge HI0.out) | refine below_set ?_ GE287.out | refine below_set ?_ GE292.out | refine below_set ?_ GE298.out) | exact HB.out))
              rintro e w124 ⟨rfl, hi, hb, hk⟩
              refine ⟨_, rfl, ?_⟩
              have n0_ := Aside0.mk (Kd.Q_mono (Kd.Q_keep (IsS82.apartQ (show IsS82 w0 _ g s0_0 t315 from by repeat (first | (with_reducible first | exact HI0.out | apply IsS82.alloc | apply IsS82.drewN | apply IsS82.drew | apply IsS82.set_1 | refine IsS82.far ?_ NB0_287.out _ | refine IsS82.far ?_ NB0_292.out _ | refine IsS82.far ?_ NB0_298.out _) | exact HI0.out)) (by (with_reducible repeat (first | apply Kd.Q_alloc | apply Kd.Q_drewN | apply Kd.Q_drew)); exact HO_293002.out) (by decide)) hk (fun _ h => h.2)) (fun _ h => h.1))
              have n1_ := Aside0.mk (KeepBut.blk hk (g' := gb287) (o := .cells #[.int .i64 0, .int .i64 0, .slice none 0 0] 36 (0, 0)) (by (with_reducible repeat (first | refine blk_drewN ?_ _ | refine blk_drew ?_ | refine blk_alloc ?_ _)); exact BK287.out) NB287_0.out (by simp))
              have n2_ := Aside0.mk (KeepBut.blk hk (g' := gb292) (o := .cells #[.int .i64 (wrap64 (1 + t288)), .int .i64 (wrap64 (1 + t290)), .slice Ao123 x293002_1.length co123] 36 (0, 0)) (by (with_reducible repeat (first | refine blk_drewN ?_ _ | refine blk_drew ?_ | refine blk_alloc ?_ _)); exact BK292.out) NB292_0.out (by simp))
              have n3_ := Aside0.mk (KeepBut.blk hk (g' := gb298) (o := .cells #[.int .i64 x299000_1, .int .i64 x299001_1, .int .i64 x299002_1, .int .i64 x299003_1] 39 (0, 0)) (by (with_reducible repeat (first | refine blk_drewN ?_ _ | refine blk_drew ?_ | refine blk_alloc ?_ _)); exact BK298.out) NB298_0.out (by simp))
              have n4_ := Aside0.mk (KeepBut.trans (by repeat (first | (with_reducible first | exact HK.out | apply KeepBut.set_ | apply keep_drewN | apply keep_drew | apply keep_alloc | refine keep_far ?_ GW287.out _ | refine keep_far ?_ GW292.out _ | refine keep_far ?_ GW298.out _) | exact HK.out)) hk (.inl rfl))
              have n5_ := Aside0.mk (hb)
              have n6_ := Aside0.mk (hi)
              clear HO_293002
              clear BK287
              clear BK292
              clear BK298
              clear HK
              clear HB
              clear HI0
              have HO_293002 := n0_
              have BK287 := n1_
              have BK292 := n2_
              have BK298 := n3_
              have HK := n4_
              have HB := n5_
              have HI0 := n6_
              clear n0_ n1_ n2_ n3_ n4_ n5_ n6_
              (try clear hb)
              (try clear hb2)
              (try clear hk)
              (try clear hi)
              refine hK.out _ _ ⟨(blk_cell BK292.out 0).trans rfl, (blk_cell BK292.out 1).trans rfl, (blk_cell BK292.out 2).trans rfl⟩ (fun hHeld => ?_)
              clear hK K
              refine norm_ (a' := ?_) ?_ ?_
              rotate_left
              ·show Act.put _ (some 48) _ = _
               simp only [Act.put, List.setIfInBounds_toArray, List.set_cons_zero, List.set_cons_succ, i64_w, i32_w]
               rfl
              refine two_ (i := 7) (j := 9) (Ni := some 49) (Nj := some 51) #[true, true, true, true, true, true, true, true, true, false, false, false, false, false, false] #[true, true, true, true, true, true, true, false, true, true, false, false, false, false, false] rfl rfl rfl rfl (two_of HT_.out (by kernel_rfl)) (by decide) (by decide) (fun K hK => ?_) (fun K hK => ?_)
              ·skip
               refine Kd.R_lit_step (Kd.int .i64) _ 3 ?hg (N := 49) ?hd (xs := ([(-1), 256] : List Int)) (inner := [.int .i64 (-1), .int .i64 256]) (ok := fun _ => True) (okp := fun _ => True) ?hr ?hp (fun _ hk => hk) trivial (Below.refl _ _) (Nat.le_refl _) (by simp) ?_; (case hd => rfl); (case hg => rfl); (case hr => first | (go_simp; done) | (go_simp; rfl)); (case hp => exact (Reps.one (show Kd.M (Kd.int .i64) _ _ _ (-1) [.int .i64 (-1)] from rfl) (Reps.one (show Kd.M (Kd.int .i64) _ _ _ 256 [.int .i64 256] from rfl) (Reps.none _ _))))
               intro v334 w125 ho126 hb hg_ hnew_
               clear hg_ hnew_
               (first | rw [← Ny333.out] at ho126 | (simp only [Int.reduceToNat] at ho126; rw [← Ny333.out] at ho126))
               have n0_ := Aside0.mk (Kd.Q_below (by (with_reducible repeat (first | apply Kd.Q_alloc | apply Kd.Q_drewN | apply Kd.Q_drew)); exact HO_293002.out) hb)
               have n1_ := Aside0.mk (Kd.R_lower ho126 (keep_size (w := w) (g := g) (row := none) (by repeat (first | (with_reducible first | exact HK.out | apply KeepBut.set_ | apply keep_drewN | apply keep_drew | apply keep_alloc | refine keep_far ?_ GW287.out _ | refine keep_far ?_ GW292.out _ | refine keep_far ?_ GW298.out _) | exact HK.out))))
               have n2_ := Aside0.mk (blk_below (g := gb287) (o := .cells #[.int .i64 0, .int .i64 0, .slice none 0 0] 36 (0, 0)) (by (with_reducible repeat (first | refine blk_drewN ?_ _ | refine blk_drew ?_ | refine blk_alloc ?_ _)); exact BK287.out) hb)
               have n3_ := Aside0.mk (blk_below (g := gb292) (o := .cells #[.int .i64 (wrap64 (1 + t288)), .int .i64 (wrap64 (1 + t290)), .slice Ao123 x293002_1.length co123] 36 (0, 0)) (by (with_reducible repeat (first | refine blk_drewN ?_ _ | refine blk_drew ?_ | refine blk_alloc ?_ _)); exact BK292.out) hb)
               have n4_ := Aside0.mk (blk_below (g := gb298) (o := .cells #[.int .i64 x299000_1, .int .i64 x299001_1, .int .i64 x299002_1, .int .i64 x299003_1] 39 (0, 0)) (by (with_reducible repeat (first | refine blk_drewN ?_ _ | refine blk_drew ?_ | refine blk_alloc ?_ _)); exact BK298.out) hb)
               have n5_ := Aside0.mk (IsS82.below (by repeat (first | (with_reducible first | exact HI0.out | apply IsS82.alloc | apply IsS82.drewN | apply IsS82.drew | apply IsS82.set_1 | refine IsS82.far ?_ NB0_287.out _ | refine IsS82.far ?_ NB0_292.out _ | refine IsS82.far ?_ NB0_298.out _) | exact HI0.out)) hb)
               have n6_ := Aside0.mk (KeepBut.trans (by repeat (first | (with_reducible first | exact HK.out | apply KeepBut.set_ | apply keep_drewN | apply keep_drew | apply keep_alloc | refine keep_far ?_ GW287.out _ | refine keep_far ?_ GW292.out _ | refine keep_far ?_ GW298.out _) | exact HK.out)) (KeepBut.of_below hb g none) (.inl rfl))
               have n7_ := Aside0.mk (below_step (by repeat (first | (with_reducible first | exact HB.out | apply below_alloc | apply pw_below_drewN | apply below_drew1 | refine below_set ?_ (IsS82.ge HI0.out) | refine below_set ?_ GE287.out | refine below_set ?_ GE292.out | refine below_set ?_ GE298.out) | exact HB.out)) hb)
               clear HO_293002
               clear BK287
               clear BK292
               clear BK298
               clear HI0
               clear HK
               clear HB
               have HO_293002 := n0_
               have HO335 := n1_
               have BK287 := n2_
               have BK292 := n3_
               have BK298 := n4_
               have HI0 := n5_
               have HK := n6_
               have HB := n7_
               clear n0_ n1_ n2_ n3_ n4_ n5_ n6_ n7_
               clear hb ho126
               obtain ⟨Ao127, co127, eo127⟩ := Kd.R_slice HO335.out
               subst eo127
               obtain ⟨ado127, fo127, _⟩ := Kd.at_int (Kd.R_reads' HO335.out).2.2 0 (by decide) (by rw [Ny333.out]; simp)
               cases fo127
               refine hK.out _ _ ⟨(blk_cell BK292.out 0).trans rfl, (blk_cell BK292.out 1).trans rfl, (blk_cell BK292.out 2).trans rfl⟩ (fun hHeld => ?_)
               clear hK K
               refine norm_ (a' := ?_) ?_ ?_
               rotate_left
               ·show Act.put _ (some 49) _ = _
                simp only [Act.put, List.setIfInBounds_toArray, List.set_cons_zero, List.set_cons_succ, i64_w, i32_w]
                rfl
               refine one_ (i := 9) (N := some 51) #[true, true, true, true, true, true, true, true, true, true, false, false, false, false, false] rfl rfl (one_of HT_.out (by kernel_rfl)) (by decide) (fun K hK => ?_)
               refine goes_ Try.func52 (by kernel_rfl) rfl #[.pointer (some ⟨g, 0, none⟩), .int .i64 2] (by rfl) rfl rfl (by (try simp only [List.map_toArray, List.map_cons, List.map_nil]); first | done | rfl | (simp only [List.length_drop, List.length_take]; rfl)) ?_
               with_reducible refine (spec_l20Rd_pick.calls k1 g s0_0 t332 2 t336 t337 w0 _ ?side1 ?side2 A110.out).mono ?_
               (case side1 => repeat (first | (with_reducible first | exact HI0.out | apply IsS82.alloc | apply IsS82.drewN | apply IsS82.drew | apply IsS82.set_1 | refine IsS82.far ?_ NB0_287.out _ | refine IsS82.far ?_ NB0_292.out _ | refine IsS82.far ?_ NB0_298.out _) | exact HI0.out))
               (case side2 => repeat (first | (with_reducible first | exact HB.out | apply below_alloc | apply pw_below_drewN | apply below_drew1 | refine below_set ?_ (IsS82.ge HI0.out) | refine below_set ?_ GE287.out | refine below_set ?_ GE292.out | refine below_set ?_ GE298.out) | exact HB.out))
               rintro e w128 ⟨rfl, hi, hb, hk⟩
               refine ⟨_, rfl, ?_⟩
               have n0_ := Aside0.mk (Kd.Q_mono (Kd.Q_keep (IsS82.apartQ (show IsS82 w0 _ g s0_0 t332 from by repeat (first | (with_reducible first | exact HI0.out | apply IsS82.alloc | apply IsS82.drewN | apply IsS82.drew | apply IsS82.set_1 | refine IsS82.far ?_ NB0_287.out _ | refine IsS82.far ?_ NB0_292.out _ | refine IsS82.far ?_ NB0_298.out _) | exact HI0.out)) (by (with_reducible repeat (first | apply Kd.Q_alloc | apply Kd.Q_drewN | apply Kd.Q_drew)); exact HO_293002.out) (by decide)) hk (fun _ h => h.2)) (fun _ h => h.1))
               have n1_ := Aside0.mk (KeepBut.blk hk (g' := gb287) (o := .cells #[.int .i64 0, .int .i64 0, .slice none 0 0] 36 (0, 0)) (by (with_reducible repeat (first | refine blk_drewN ?_ _ | refine blk_drew ?_ | refine blk_alloc ?_ _)); exact BK287.out) NB287_0.out (by simp))
               have n2_ := Aside0.mk (KeepBut.blk hk (g' := gb292) (o := .cells #[.int .i64 (wrap64 (1 + t288)), .int .i64 (wrap64 (1 + t290)), .slice Ao123 x293002_1.length co123] 36 (0, 0)) (by (with_reducible repeat (first | refine blk_drewN ?_ _ | refine blk_drew ?_ | refine blk_alloc ?_ _)); exact BK292.out) NB292_0.out (by simp))
               have n3_ := Aside0.mk (KeepBut.blk hk (g' := gb298) (o := .cells #[.int .i64 x299000_1, .int .i64 x299001_1, .int .i64 x299002_1, .int .i64 x299003_1] 39 (0, 0)) (by (with_reducible repeat (first | refine blk_drewN ?_ _ | refine blk_drew ?_ | refine blk_alloc ?_ _)); exact BK298.out) NB298_0.out (by simp))
               have n4_ := Aside0.mk (Kd.R_mono (Kd.R_keep (IsS82.apart (show IsS82 w0 _ g s0_0 t332 from by repeat (first | (with_reducible first | exact HI0.out | apply IsS82.alloc | apply IsS82.drewN | apply IsS82.drew | apply IsS82.set_1 | refine IsS82.far ?_ NB0_287.out _ | refine IsS82.far ?_ NB0_292.out _ | refine IsS82.far ?_ NB0_298.out _) | exact HI0.out)) (by (with_reducible repeat (first | apply Kd.R_alloc | apply Kd.R_drewN | apply Kd.R_drew)); exact HO335.out) (by decide)) hk (fun _ h => h.2)) (fun _ h => h.1))
               have n5_ := Aside0.mk (KeepBut.trans (by repeat (first | (with_reducible first | exact HK.out | apply KeepBut.set_ | apply keep_drewN | apply keep_drew | apply keep_alloc | refine keep_far ?_ GW287.out _ | refine keep_far ?_ GW292.out _ | refine keep_far ?_ GW298.out _) | exact HK.out)) hk (.inl rfl))
               have n6_ := Aside0.mk (hb)
               have n7_ := Aside0.mk (hi)
               clear HO_293002
               clear BK287
               clear BK292
               clear BK298
               clear HO335
               clear HK
               clear HB
               clear HI0
               have HO_293002 := n0_
               have BK287 := n1_
               have BK292 := n2_
               have BK298 := n3_
               have HO335 := n4_
               have HK := n5_
               have HB := n6_
               have HI0 := n7_
               clear n0_ n1_ n2_ n3_ n4_ n5_ n6_ n7_
               (try clear hb)
               (try clear hb2)
               (try clear hk)
               (try clear hi)
               refine hK.out _ _ ⟨(blk_cell BK292.out 0).trans rfl, (blk_cell BK292.out 1).trans rfl, (blk_cell BK292.out 2).trans rfl⟩ (fun hHeld => ?_)
               clear hK K
               refine norm_ (a' := ?_) ?_ ?_
               rotate_left
               ·show Act.put _ (some 51) _ = _
                simp only [Act.put, List.setIfInBounds_toArray, List.set_cons_zero, List.set_cons_succ, i64_w, i32_w]
                rfl
               exact norm_ (by simp only [putAll, Act.put, List.setIfInBounds_toArray, List.set_cons_zero, List.set_cons_succ]) (hCont (.slice (some ado127) y333.length co127, ado127) _ ⟨hHeld, (by (with_reducible repeat (first | apply Kd.R_alloc | apply Kd.R_drewN | apply Kd.R_drew)); exact HO335.out), (by (with_reducible repeat (first | apply Kd.Q_alloc | apply Kd.Q_drewN | apply Kd.Q_drew)); exact HO_293002.out), ⟨_, rfl⟩, (by (with_reducible repeat (first | refine blk_drewN ?_ _ | refine blk_drew ?_ | refine blk_alloc ?_ _)); exact BK287.out), (by (with_reducible repeat (first | refine blk_drewN ?_ _ | refine blk_drew ?_ | refine blk_alloc ?_ _)); exact BK292.out), (by (with_reducible repeat (first | refine blk_drewN ?_ _ | refine blk_drew ?_ | refine blk_alloc ?_ _)); exact BK298.out), (by repeat (first | (with_reducible first | exact HI0.out | apply IsS82.alloc | apply IsS82.drewN | apply IsS82.drew | apply IsS82.set_1 | refine IsS82.far ?_ NB0_287.out _ | refine IsS82.far ?_ NB0_292.out _ | refine IsS82.far ?_ NB0_298.out _) | exact HI0.out)), (by repeat (first | (with_reducible first | exact HK.out | apply KeepBut.set_ | apply keep_drewN | apply keep_drew | apply keep_alloc | refine keep_far ?_ GW287.out _ | refine keep_far ?_ GW292.out _ | refine keep_far ?_ GW298.out _) | exact HK.out)), (by repeat (first | (with_reducible first | exact HB.out | apply below_alloc | apply pw_below_drewN | apply below_drew1 | refine below_set ?_ (IsS82.ge HI0.out) | refine below_set ?_ GE287.out | refine below_set ?_ GE292.out | refine below_set ?_ GE298.out) | exact HB.out))⟩)
              ·skip
               refine goes_ Try.func52 (by kernel_rfl) rfl #[.pointer (some ⟨g, 0, none⟩), .int .i64 2] (by rfl) rfl rfl (by (try simp only [List.map_toArray, List.map_cons, List.map_nil]); first | done | rfl | (simp only [List.length_drop, List.length_take]; rfl)) ?_
               with_reducible refine (spec_l20Rd_pick.calls k1 g s0_0 t332 2 t336 t337 w0 _ ?side1 ?side2 A110.out).mono ?_
               (case side1 => repeat (first | (with_reducible first | exact HI0.out | apply IsS82.alloc | apply IsS82.drewN | apply IsS82.drew | apply IsS82.set_1 | refine IsS82.far ?_ NB0_287.out _ | refine IsS82.far ?_ NB0_292.out _ | refine IsS82.far ?_ NB0_298.out _) | exact HI0.out))
               (case side2 => repeat (first | (with_reducible first | exact HB.out | apply below_alloc | apply pw_below_drewN | apply below_drew1 | refine below_set ?_ (IsS82.ge HI0.out) | refine below_set ?_ GE287.out | refine below_set ?_ GE292.out | refine below_set ?_ GE298.out) | exact HB.out))
               rintro e w125 ⟨rfl, hi, hb, hk⟩
               refine ⟨_, rfl, ?_⟩
               have n0_ := Aside0.mk (Kd.Q_mono (Kd.Q_keep (IsS82.apartQ (show IsS82 w0 _ g s0_0 t332 from by repeat (first | (with_reducible first | exact HI0.out | apply IsS82.alloc | apply IsS82.drewN | apply IsS82.drew | apply IsS82.set_1 | refine IsS82.far ?_ NB0_287.out _ | refine IsS82.far ?_ NB0_292.out _ | refine IsS82.far ?_ NB0_298.out _) | exact HI0.out)) (by (with_reducible repeat (first | apply Kd.Q_alloc | apply Kd.Q_drewN | apply Kd.Q_drew)); exact HO_293002.out) (by decide)) hk (fun _ h => h.2)) (fun _ h => h.1))
               have n1_ := Aside0.mk (KeepBut.blk hk (g' := gb287) (o := .cells #[.int .i64 0, .int .i64 0, .slice none 0 0] 36 (0, 0)) (by (with_reducible repeat (first | refine blk_drewN ?_ _ | refine blk_drew ?_ | refine blk_alloc ?_ _)); exact BK287.out) NB287_0.out (by simp))
               have n2_ := Aside0.mk (KeepBut.blk hk (g' := gb292) (o := .cells #[.int .i64 (wrap64 (1 + t288)), .int .i64 (wrap64 (1 + t290)), .slice Ao123 x293002_1.length co123] 36 (0, 0)) (by (with_reducible repeat (first | refine blk_drewN ?_ _ | refine blk_drew ?_ | refine blk_alloc ?_ _)); exact BK292.out) NB292_0.out (by simp))
               have n3_ := Aside0.mk (KeepBut.blk hk (g' := gb298) (o := .cells #[.int .i64 x299000_1, .int .i64 x299001_1, .int .i64 x299002_1, .int .i64 x299003_1] 39 (0, 0)) (by (with_reducible repeat (first | refine blk_drewN ?_ _ | refine blk_drew ?_ | refine blk_alloc ?_ _)); exact BK298.out) NB298_0.out (by simp))
               have n4_ := Aside0.mk (KeepBut.trans (by repeat (first | (with_reducible first | exact HK.out | apply KeepBut.set_ | apply keep_drewN | apply keep_drew | apply keep_alloc | refine keep_far ?_ GW287.out _ | refine keep_far ?_ GW292.out _ | refine keep_far ?_ GW298.out _) | exact HK.out)) hk (.inl rfl))
               have n5_ := Aside0.mk (hb)
               have n6_ := Aside0.mk (hi)
               clear HO_293002
               clear BK287
               clear BK292
               clear BK298
               clear HK
               clear HB
               clear HI0
               have HO_293002 := n0_
               have BK287 := n1_
               have BK292 := n2_
               have BK298 := n3_
               have HK := n4_
               have HB := n5_
               have HI0 := n6_
               clear n0_ n1_ n2_ n3_ n4_ n5_ n6_
               (try clear hb)
               (try clear hb2)
               (try clear hk)
               (try clear hi)
               refine hK.out _ _ ⟨(blk_cell BK292.out 0).trans rfl, (blk_cell BK292.out 1).trans rfl, (blk_cell BK292.out 2).trans rfl⟩ (fun hHeld => ?_)
               clear hK K
               refine norm_ (a' := ?_) ?_ ?_
               rotate_left
               ·show Act.put _ (some 51) _ = _
                simp only [Act.put, List.setIfInBounds_toArray, List.set_cons_zero, List.set_cons_succ, i64_w, i32_w]
                rfl
               refine one_ (i := 7) (N := some 49) #[true, true, true, true, true, true, true, true, true, true, false, false, false, false, false] rfl rfl (one_of HT_.out (by kernel_rfl)) (by decide) (fun K hK => ?_)
               refine Kd.R_lit_step (Kd.int .i64) _ 3 ?hg (N := 49) ?hd (xs := ([(-1), 256] : List Int)) (inner := [.int .i64 (-1), .int .i64 256]) (ok := fun _ => True) (okp := fun _ => True) ?hr ?hp (fun _ hk => hk) trivial (Below.refl _ _) (Nat.le_refl _) (by simp) ?_; (case hd => rfl); (case hg => rfl); (case hr => first | (go_simp; done) | (go_simp; rfl)); (case hp => exact (Reps.one (show Kd.M (Kd.int .i64) _ _ _ (-1) [.int .i64 (-1)] from rfl) (Reps.one (show Kd.M (Kd.int .i64) _ _ _ 256 [.int .i64 256] from rfl) (Reps.none _ _))))
               intro v334 w126 ho127 hb hg_ hnew_
               clear hg_ hnew_
               (first | rw [← Ny333.out] at ho127 | (simp only [Int.reduceToNat] at ho127; rw [← Ny333.out] at ho127))
               have n0_ := Aside0.mk (Kd.Q_below (by (with_reducible repeat (first | apply Kd.Q_alloc | apply Kd.Q_drewN | apply Kd.Q_drew)); exact HO_293002.out) hb)
               have n1_ := Aside0.mk (Kd.R_lower ho127 (keep_size (w := w) (g := g) (row := none) (by repeat (first | (with_reducible first | exact HK.out | apply KeepBut.set_ | apply keep_drewN | apply keep_drew | apply keep_alloc | refine keep_far ?_ GW287.out _ | refine keep_far ?_ GW292.out _ | refine keep_far ?_ GW298.out _) | exact HK.out))))
               have n2_ := Aside0.mk (blk_below (g := gb287) (o := .cells #[.int .i64 0, .int .i64 0, .slice none 0 0] 36 (0, 0)) (by (with_reducible repeat (first | refine blk_drewN ?_ _ | refine blk_drew ?_ | refine blk_alloc ?_ _)); exact BK287.out) hb)
               have n3_ := Aside0.mk (blk_below (g := gb292) (o := .cells #[.int .i64 (wrap64 (1 + t288)), .int .i64 (wrap64 (1 + t290)), .slice Ao123 x293002_1.length co123] 36 (0, 0)) (by (with_reducible repeat (first | refine blk_drewN ?_ _ | refine blk_drew ?_ | refine blk_alloc ?_ _)); exact BK292.out) hb)
               have n4_ := Aside0.mk (blk_below (g := gb298) (o := .cells #[.int .i64 x299000_1, .int .i64 x299001_1, .int .i64 x299002_1, .int .i64 x299003_1] 39 (0, 0)) (by (with_reducible repeat (first | refine blk_drewN ?_ _ | refine blk_drew ?_ | refine blk_alloc ?_ _)); exact BK298.out) hb)
               have n5_ := Aside0.mk (IsS82.below (by repeat (first | (with_reducible first | exact HI0.out | apply IsS82.alloc | apply IsS82.drewN | apply IsS82.drew | apply IsS82.set_1 | refine IsS82.far ?_ NB0_287.out _ | refine IsS82.far ?_ NB0_292.out _ | refine IsS82.far ?_ NB0_298.out _) | exact HI0.out)) hb)
               have n6_ := Aside0.mk (KeepBut.trans (by repeat (first | (with_reducible first | exact HK.out | apply KeepBut.set_ | apply keep_drewN | apply keep_drew | apply keep_alloc | refine keep_far ?_ GW287.out _ | refine keep_far ?_ GW292.out _ | refine keep_far ?_ GW298.out _) | exact HK.out)) (KeepBut.of_below hb g none) (.inl rfl))
               have n7_ := Aside0.mk (below_step (by repeat (first | (with_reducible first | exact HB.out | apply below_alloc | apply pw_below_drewN | apply below_drew1 | refine below_set ?_ (IsS82.ge HI0.out) | refine below_set ?_ GE287.out | refine below_set ?_ GE292.out | refine below_set ?_ GE298.out) | exact HB.out)) hb)
               clear HO_293002
               clear BK287
               clear BK292
               clear BK298
               clear HI0
               clear HK
               clear HB
               have HO_293002 := n0_
               have HO335 := n1_
               have BK287 := n2_
               have BK292 := n3_
               have BK298 := n4_
               have HI0 := n5_
               have HK := n6_
               have HB := n7_
               clear n0_ n1_ n2_ n3_ n4_ n5_ n6_ n7_
               clear hb ho127
               obtain ⟨Ao128, co128, eo128⟩ := Kd.R_slice HO335.out
               subst eo128
               obtain ⟨ado128, fo128, _⟩ := Kd.at_int (Kd.R_reads' HO335.out).2.2 0 (by decide) (by rw [Ny333.out]; simp)
               cases fo128
               refine hK.out _ _ ⟨(blk_cell BK292.out 0).trans rfl, (blk_cell BK292.out 1).trans rfl, (blk_cell BK292.out 2).trans rfl⟩ (fun hHeld => ?_)
               clear hK K
               refine norm_ (a' := ?_) ?_ ?_
               rotate_left
               ·show Act.put _ (some 49) _ = _
                simp only [Act.put, List.setIfInBounds_toArray, List.set_cons_zero, List.set_cons_succ, i64_w, i32_w]
                rfl
               exact norm_ (by simp only [putAll, Act.put, List.setIfInBounds_toArray, List.set_cons_zero, List.set_cons_succ]) (hCont (.slice (some ado128) y333.length co128, ado128) _ ⟨hHeld, (by (with_reducible repeat (first | apply Kd.R_alloc | apply Kd.R_drewN | apply Kd.R_drew)); exact HO335.out), (by (with_reducible repeat (first | apply Kd.Q_alloc | apply Kd.Q_drewN | apply Kd.Q_drew)); exact HO_293002.out), ⟨_, rfl⟩, (by (with_reducible repeat (first | refine blk_drewN ?_ _ | refine blk_drew ?_ | refine blk_alloc ?_ _)); exact BK287.out), (by (with_reducible repeat (first | refine blk_drewN ?_ _ | refine blk_drew ?_ | refine blk_alloc ?_ _)); exact BK292.out), (by (with_reducible repeat (first | refine blk_drewN ?_ _ | refine blk_drew ?_ | refine blk_alloc ?_ _)); exact BK298.out), (by repeat (first | (with_reducible first | exact HI0.out | apply IsS82.alloc | apply IsS82.drewN | apply IsS82.drew | apply IsS82.set_1 | refine IsS82.far ?_ NB0_287.out _ | refine IsS82.far ?_ NB0_292.out _ | refine IsS82.far ?_ NB0_298.out _) | exact HI0.out)), (by repeat (first | (with_reducible first | exact HK.out | apply KeepBut.set_ | apply keep_drewN | apply keep_drew | apply keep_alloc | refine keep_far ?_ GW287.out _ | refine keep_far ?_ GW292.out _ | refine keep_far ?_ GW298.out _) | exact HK.out)), (by repeat (first | (with_reducible first | exact HB.out | apply below_alloc | apply pw_below_drewN | apply below_drew1 | refine below_set ?_ (IsS82.ge HI0.out) | refine below_set ?_ GE287.out | refine below_set ?_ GE292.out | refine below_set ?_ GE298.out) | exact HB.out))⟩)
             ·skip
              refine Kd.R_lit_step (Kd.int .i64) _ 3 ?hg (N := 49) ?hd (xs := ([(-1), 256] : List Int)) (inner := [.int .i64 (-1), .int .i64 256]) (ok := fun _ => True) (okp := fun _ => True) ?hr ?hp (fun _ hk => hk) trivial (Below.refl _ _) (Nat.le_refl _) (by simp) ?_; (case hd => rfl); (case hg => rfl); (case hr => first | (go_simp; done) | (go_simp; rfl)); (case hp => exact (Reps.one (show Kd.M (Kd.int .i64) _ _ _ (-1) [.int .i64 (-1)] from rfl) (Reps.one (show Kd.M (Kd.int .i64) _ _ _ 256 [.int .i64 256] from rfl) (Reps.none _ _))))
              intro v334 w124 ho125 hb hg_ hnew_
              clear hg_ hnew_
              (first | rw [← Ny333.out] at ho125 | (simp only [Int.reduceToNat] at ho125; rw [← Ny333.out] at ho125))
              have n0_ := Aside0.mk (Kd.Q_below (by (with_reducible repeat (first | apply Kd.Q_alloc | apply Kd.Q_drewN | apply Kd.Q_drew)); exact HO_293002.out) hb)
              have n1_ := Aside0.mk (Kd.R_lower ho125 (keep_size (w := w) (g := g) (row := none) (by repeat (first | (with_reducible first | exact HK.out | apply KeepBut.set_ | apply keep_drewN | apply keep_drew | apply keep_alloc | refine keep_far ?_ GW287.out _ | refine keep_far ?_ GW292.out _ | refine keep_far ?_ GW298.out _) | exact HK.out))))
              have n2_ := Aside0.mk (blk_below (g := gb287) (o := .cells #[.int .i64 0, .int .i64 0, .slice none 0 0] 36 (0, 0)) (by (with_reducible repeat (first | refine blk_drewN ?_ _ | refine blk_drew ?_ | refine blk_alloc ?_ _)); exact BK287.out) hb)
              have n3_ := Aside0.mk (blk_below (g := gb292) (o := .cells #[.int .i64 (wrap64 (1 + t288)), .int .i64 (wrap64 (1 + t290)), .slice Ao123 x293002_1.length co123] 36 (0, 0)) (by (with_reducible repeat (first | refine blk_drewN ?_ _ | refine blk_drew ?_ | refine blk_alloc ?_ _)); exact BK292.out) hb)
              have n4_ := Aside0.mk (blk_below (g := gb298) (o := .cells #[.int .i64 x299000_1, .int .i64 x299001_1, .int .i64 x299002_1, .int .i64 x299003_1] 39 (0, 0)) (by (with_reducible repeat (first | refine blk_drewN ?_ _ | refine blk_drew ?_ | refine blk_alloc ?_ _)); exact BK298.out) hb)
              have n5_ := Aside0.mk (IsS82.below (by repeat (first | (with_reducible first | exact HI0.out | apply IsS82.alloc | apply IsS82.drewN | apply IsS82.drew | apply IsS82.set_1 | refine IsS82.far ?_ NB0_287.out _ | refine IsS82.far ?_ NB0_292.out _ | refine IsS82.far ?_ NB0_298.out _) | exact HI0.out)) hb)
              have n6_ := Aside0.mk (KeepBut.trans (by repeat (first | (with_reducible first | exact HK.out | apply KeepBut.set_ | apply keep_drewN | apply keep_drew | apply keep_alloc | refine keep_far ?_ GW287.out _ | refine keep_far ?_ GW292.out _ | refine keep_far ?_ GW298.out _) | exact HK.out)) (KeepBut.of_below hb g none) (.inl rfl))
              have n7_ := Aside0.mk (below_step (by repeat (first | (with_reducible first | exact HB.out | apply below_alloc | apply pw_below_drewN | apply below_drew1 | refine below_set ?_ (IsS82.ge HI0.out) | refine below_set ?_ GE287.out | refine below_set ?_ GE292.out | refine below_set ?_ GE298.out) | exact HB.out)) hb)
              clear HO_293002
              clear BK287
              clear BK292
              clear BK298
              clear HI0
              clear HK
              clear HB
              have HO_293002 := n0_
              have HO335 := n1_
              have BK287 := n2_
              have BK292 := n3_
              have BK298 := n4_
              have HI0 := n5_
              have HK := n6_
              have HB := n7_
              clear n0_ n1_ n2_ n3_ n4_ n5_ n6_ n7_
              clear hb ho125
              obtain ⟨Ao126, co126, eo126⟩ := Kd.R_slice HO335.out
              subst eo126
              obtain ⟨ado126, fo126, _⟩ := Kd.at_int (Kd.R_reads' HO335.out).2.2 0 (by decide) (by rw [Ny333.out]; simp)
              cases fo126
              refine hK.out _ _ ⟨(blk_cell BK292.out 0).trans rfl, (blk_cell BK292.out 1).trans rfl, (blk_cell BK292.out 2).trans rfl⟩ (fun hHeld => ?_)
              clear hK K
              refine norm_ (a' := ?_) ?_ ?_
              rotate_left
              ·show Act.put _ (some 49) _ = _
               simp only [Act.put, List.setIfInBounds_toArray, List.set_cons_zero, List.set_cons_succ, i64_w, i32_w]
               rfl
              refine one_ (i := 6) (N := some 48) #[true, true, true, true, true, true, true, true, true, false, false, false, false, false, false] rfl rfl (one_of HT_.out (by kernel_rfl)) (by decide) (fun K hK => ?_)
              refine goes_ Try.func52 (by kernel_rfl) rfl #[.pointer (some ⟨g, 0, none⟩), .int .i64 (x293002_1.length : Int)] (by rfl) rfl rfl (by (try simp only [List.map_toArray, List.map_cons, List.map_nil]); first | done | rfl | (simp only [List.length_drop, List.length_take]; rfl)) ?_
              with_reducible refine (spec_l20Rd_pick.calls k1 g s0_0 t315 (x293002_1.length : Int) t331 t332 w0 _ ?side1 ?side2 A109.out).mono ?_
              (case side1 => repeat (first | (with_reducible first | exact HI0.out | apply IsS82.alloc | apply IsS82.drewN | apply IsS82.drew | apply IsS82.set_1 | refine IsS82.far ?_ NB0_287.out _ | refine IsS82.far ?_ NB0_292.out _ | refine IsS82.far ?_ NB0_298.out _) | exact HI0.out))
              (case side2 => repeat (first | (with_reducible first | exact HB.out | apply below_alloc | apply pw_below_drewN | apply below_drew1 | refine below_set ?_ (IsS82.ge HI0.out) | refine below_set ?_ GE287.out | refine below_set ?_ GE292.out | refine below_set ?_ GE298.out) | exact HB.out))
              rintro e w127 ⟨rfl, hi, hb, hk⟩
              refine ⟨_, rfl, ?_⟩
              have n0_ := Aside0.mk (Kd.Q_mono (Kd.Q_keep (IsS82.apartQ (show IsS82 w0 _ g s0_0 t315 from by repeat (first | (with_reducible first | exact HI0.out | apply IsS82.alloc | apply IsS82.drewN | apply IsS82.drew | apply IsS82.set_1 | refine IsS82.far ?_ NB0_287.out _ | refine IsS82.far ?_ NB0_292.out _ | refine IsS82.far ?_ NB0_298.out _) | exact HI0.out)) (by (with_reducible repeat (first | apply Kd.Q_alloc | apply Kd.Q_drewN | apply Kd.Q_drew)); exact HO_293002.out) (by decide)) hk (fun _ h => h.2)) (fun _ h => h.1))
              have n1_ := Aside0.mk (KeepBut.blk hk (g' := gb287) (o := .cells #[.int .i64 0, .int .i64 0, .slice none 0 0] 36 (0, 0)) (by (with_reducible repeat (first | refine blk_drewN ?_ _ | refine blk_drew ?_ | refine blk_alloc ?_ _)); exact BK287.out) NB287_0.out (by simp))
              have n2_ := Aside0.mk (KeepBut.blk hk (g' := gb292) (o := .cells #[.int .i64 (wrap64 (1 + t288)), .int .i64 (wrap64 (1 + t290)), .slice Ao123 x293002_1.length co123] 36 (0, 0)) (by (with_reducible repeat (first | refine blk_drewN ?_ _ | refine blk_drew ?_ | refine blk_alloc ?_ _)); exact BK292.out) NB292_0.out (by simp))
              have n3_ := Aside0.mk (KeepBut.blk hk (g' := gb298) (o := .cells #[.int .i64 x299000_1, .int .i64 x299001_1, .int .i64 x299002_1, .int .i64 x299003_1] 39 (0, 0)) (by (with_reducible repeat (first | refine blk_drewN ?_ _ | refine blk_drew ?_ | refine blk_alloc ?_ _)); exact BK298.out) NB298_0.out (by simp))
              have n4_ := Aside0.mk (Kd.R_mono (Kd.R_keep (IsS82.apart (show IsS82 w0 _ g s0_0 t315 from by repeat (first | (with_reducible first | exact HI0.out | apply IsS82.alloc | apply IsS82.drewN | apply IsS82.drew | apply IsS82.set_1 | refine IsS82.far ?_ NB0_287.out _ | refine IsS82.far ?_ NB0_292.out _ | refine IsS82.far ?_ NB0_298.out _) | exact HI0.out)) (by (with_reducible repeat (first | apply Kd.R_alloc | apply Kd.R_drewN | apply Kd.R_drew)); exact HO335.out) (by decide)) hk (fun _ h => h.2)) (fun _ h => h.1))
              have n5_ := Aside0.mk (KeepBut.trans (by repeat (first | (with_reducible first | exact HK.out | apply KeepBut.set_ | apply keep_drewN | apply keep_drew | apply keep_alloc | refine keep_far ?_ GW287.out _ | refine keep_far ?_ GW292.out _ | refine keep_far ?_ GW298.out _) | exact HK.out)) hk (.inl rfl))
              have n6_ := Aside0.mk (hb)
              have n7_ := Aside0.mk (hi)
              clear HO_293002
              clear BK287
              clear BK292
              clear BK298
              clear HO335
              clear HK
              clear HB
              clear HI0
              have HO_293002 := n0_
              have BK287 := n1_
              have BK292 := n2_
              have BK298 := n3_
              have HO335 := n4_
              have HK := n5_
              have HB := n6_
              have HI0 := n7_
              clear n0_ n1_ n2_ n3_ n4_ n5_ n6_ n7_
              (try clear hb)
              (try clear hb2)
              (try clear hk)
              (try clear hi)
              refine hK.out _ _ ⟨(blk_cell BK292.out 0).trans rfl, (blk_cell BK292.out 1).trans rfl, (blk_cell BK292.out 2).trans rfl⟩ (fun hHeld => ?_)
              clear hK K
              refine norm_ (a' := ?_) ?_ ?_
              rotate_left
              ·show Act.put _ (some 48) _ = _
               simp only [Act.put, List.setIfInBounds_toArray, List.set_cons_zero, List.set_cons_succ, i64_w, i32_w]
               rfl
              refine one_ (i := 9) (N := some 51) #[true, true, true, true, true, true, true, true, true, true, false, false, false, false, false] rfl rfl (one_of HT_.out (by kernel_rfl)) (by decide) (fun K hK => ?_)
              refine goes_ Try.func52 (by kernel_rfl) rfl #[.pointer (some ⟨g, 0, none⟩), .int .i64 2] (by rfl) rfl rfl (by (try simp only [List.map_toArray, List.map_cons, List.map_nil]); first | done | rfl | (simp only [List.length_drop, List.length_take]; rfl)) ?_
              with_reducible refine (spec_l20Rd_pick.calls k1 g s0_0 t332 2 t336 t337 w0 _ ?side1 ?side2 A110.out).mono ?_
              (case side1 => repeat (first | (with_reducible first | exact HI0.out | apply IsS82.alloc | apply IsS82.drewN | apply IsS82.drew | apply IsS82.set_1 | refine IsS82.far ?_ NB0_287.out _ | refine IsS82.far ?_ NB0_292.out _ | refine IsS82.far ?_ NB0_298.out _) | exact HI0.out))
              (case side2 => repeat (first | (with_reducible first | exact HB.out | apply below_alloc | apply pw_below_drewN | apply below_drew1 | refine below_set ?_ (IsS82.ge HI0.out) | refine below_set ?_ GE287.out | refine below_set ?_ GE292.out | refine below_set ?_ GE298.out) | exact HB.out))
              rintro e w128 ⟨rfl, hi, hb, hk⟩
              refine ⟨_, rfl, ?_⟩
              have n0_ := Aside0.mk (Kd.Q_mono (Kd.Q_keep (IsS82.apartQ (show IsS82 w0 _ g s0_0 t332 from by repeat (first | (with_reducible first | exact HI0.out | apply IsS82.alloc | apply IsS82.drewN | apply IsS82.drew | apply IsS82.set_1 | refine IsS82.far ?_ NB0_287.out _ | refine IsS82.far ?_ NB0_292.out _ | refine IsS82.far ?_ NB0_298.out _) | exact HI0.out)) (by (with_reducible repeat (first | apply Kd.Q_alloc | apply Kd.Q_drewN | apply Kd.Q_drew)); exact HO_293002.out) (by decide)) hk (fun _ h => h.2)) (fun _ h => h.1))
              have n1_ := Aside0.mk (KeepBut.blk hk (g' := gb287) (o := .cells #[.int .i64 0, .int .i64 0, .slice none 0 0] 36 (0, 0)) (by (with_reducible repeat (first | refine blk_drewN ?_ _ | refine blk_drew ?_ | refine blk_alloc ?_ _)); exact BK287.out) NB287_0.out (by simp))
              have n2_ := Aside0.mk (KeepBut.blk hk (g' := gb292) (o := .cells #[.int .i64 (wrap64 (1 + t288)), .int .i64 (wrap64 (1 + t290)), .slice Ao123 x293002_1.length co123] 36 (0, 0)) (by (with_reducible repeat (first | refine blk_drewN ?_ _ | refine blk_drew ?_ | refine blk_alloc ?_ _)); exact BK292.out) NB292_0.out (by simp))
              have n3_ := Aside0.mk (KeepBut.blk hk (g' := gb298) (o := .cells #[.int .i64 x299000_1, .int .i64 x299001_1, .int .i64 x299002_1, .int .i64 x299003_1] 39 (0, 0)) (by (with_reducible repeat (first | refine blk_drewN ?_ _ | refine blk_drew ?_ | refine blk_alloc ?_ _)); exact BK298.out) NB298_0.out (by simp))
              have n4_ := Aside0.mk (Kd.R_mono (Kd.R_keep (IsS82.apart (show IsS82 w0 _ g s0_0 t332 from by repeat (first | (with_reducible first | exact HI0.out | apply IsS82.alloc | apply IsS82.drewN | apply IsS82.drew | apply IsS82.set_1 | refine IsS82.far ?_ NB0_287.out _ | refine IsS82.far ?_ NB0_292.out _ | refine IsS82.far ?_ NB0_298.out _) | exact HI0.out)) (by (with_reducible repeat (first | apply Kd.R_alloc | apply Kd.R_drewN | apply Kd.R_drew)); exact HO335.out) (by decide)) hk (fun _ h => h.2)) (fun _ h => h.1))
              have n5_ := Aside0.mk (KeepBut.trans (by repeat (first | (with_reducible first | exact HK.out | apply KeepBut.set_ | apply keep_drewN | apply keep_drew | apply keep_alloc | refine keep_far ?_ GW287.out _ | refine keep_far ?_ GW292.out _ | refine keep_far ?_ GW298.out _) | exact HK.out)) hk (.inl rfl))
              have n6_ := Aside0.mk (hb)
              have n7_ := Aside0.mk (hi)
              clear HO_293002
              clear BK287
              clear BK292
              clear BK298
              clear HO335
              clear HK
              clear HB
              clear HI0
              have HO_293002 := n0_
              have BK287 := n1_
              have BK292 := n2_
              have BK298 := n3_
              have HO335 := n4_
              have HK := n5_
              have HB := n6_
              have HI0 := n7_
              clear n0_ n1_ n2_ n3_ n4_ n5_ n6_ n7_
              (try clear hb)
              (try clear hb2)
              (try clear hk)
              (try clear hi)
              refine hK.out _ _ ⟨(blk_cell BK292.out 0).trans rfl, (blk_cell BK292.out 1).trans rfl, (blk_cell BK292.out 2).trans rfl⟩ (fun hHeld => ?_)
              clear hK K
              refine norm_ (a' := ?_) ?_ ?_
              rotate_left
              ·show Act.put _ (some 51) _ = _
               simp only [Act.put, List.setIfInBounds_toArray, List.set_cons_zero, List.set_cons_succ, i64_w, i32_w]
               rfl
              exact norm_ (by simp only [putAll, Act.put, List.setIfInBounds_toArray, List.set_cons_zero, List.set_cons_succ]) (hCont (.slice (some ado126) y333.length co126, ado126) _ ⟨hHeld, (by (with_reducible repeat (first | apply Kd.R_alloc | apply Kd.R_drewN | apply Kd.R_drew)); exact HO335.out), (by (with_reducible repeat (first | apply Kd.Q_alloc | apply Kd.Q_drewN | apply Kd.Q_drew)); exact HO_293002.out), ⟨_, rfl⟩, (by (with_reducible repeat (first | refine blk_drewN ?_ _ | refine blk_drew ?_ | refine blk_alloc ?_ _)); exact BK287.out), (by (with_reducible repeat (first | refine blk_drewN ?_ _ | refine blk_drew ?_ | refine blk_alloc ?_ _)); exact BK292.out), (by (with_reducible repeat (first | refine blk_drewN ?_ _ | refine blk_drew ?_ | refine blk_alloc ?_ _)); exact BK298.out), (by repeat (first | (with_reducible first | exact HI0.out | apply IsS82.alloc | apply IsS82.drewN | apply IsS82.drew | apply IsS82.set_1 | refine IsS82.far ?_ NB0_287.out _ | refine IsS82.far ?_ NB0_292.out _ | refine IsS82.far ?_ NB0_298.out _) | exact HI0.out)), (by repeat (first | (with_reducible first | exact HK.out | apply KeepBut.set_ | apply keep_drewN | apply keep_drew | apply keep_alloc | refine keep_far ?_ GW287.out _ | refine keep_far ?_ GW292.out _ | refine keep_far ?_ GW298.out _) | exact HK.out)), (by repeat (first | (with_reducible first | exact HB.out | apply below_alloc | apply pw_below_drewN | apply below_drew1 | refine below_set ?_ (IsS82.ge HI0.out) | refine below_set ?_ GE287.out | refine below_set ?_ GE292.out | refine below_set ?_ GE298.out) | exact HB.out))⟩)
            rintro ⟨v334, adz_v334⟩ w129 ⟨hS_, h0_, h1_, h2_, h3_, h4_, h5_, h6_, h7_, h8_⟩
            have n0_ : Aside0 (Kd.R (Kd.int .i64) 3 w129 w.heap.size (fun _ => True) v334 y333) := ⟨h0_⟩
            have n1_ : Aside0 (Kd.Q k39 39 w129 w.heap.size (fun k_ => k_ ≠ gb298) (.slice Ao123 x293002_1.length co123) x293002_1) := ⟨h1_⟩
            have n2_ : Aside0 (∃ c_, (v334 : Value) = .slice (some adz_v334) y333.length c_) := ⟨h2_⟩
            have n3_ : Aside0 (w129.heap[gb287]? = some (.cells #[.int .i64 0, .int .i64 0, .slice none 0 0] 36 (0, 0))) := ⟨h3_⟩
            have n4_ : Aside0 (w129.heap[gb292]? = some (.cells #[.int .i64 (wrap64 (1 + t288)), .int .i64 (wrap64 (1 + t290)), .slice Ao123 x293002_1.length co123] 36 (0, 0))) := ⟨h4_⟩
            have n5_ : Aside0 (w129.heap[gb298]? = some (.cells #[.int .i64 x299000_1, .int .i64 x299001_1, .int .i64 x299002_1, .int .i64 x299003_1] 39 (0, 0))) := ⟨h5_⟩
            have n6_ : Aside0 (IsS82 w0 w129 g s0_0 t337) := ⟨h6_⟩
            have n7_ : Aside0 (KeepBut w w129 g none) := ⟨h7_⟩
            have n8_ : Aside0 (Below w0.heap.size w0 w129) := ⟨h8_⟩
            clear HO_293002
            clear BK287
            clear BK292
            clear BK298
            clear HI0
            clear HK
            clear HB
            clear h0_ h1_ h2_ h3_ h4_ h5_ h6_ h7_ h8_
            have HO335 := n0_
            have HO_293002 := n1_
            have HA_HO335 := n2_
            have BK287 := n3_
            have BK292 := n4_
            have BK298 := n5_
            have HI0 := n6_
            have HK := n7_
            have HB := n8_
            clear n0_ n1_ n2_ n3_ n4_ n5_ n6_ n7_ n8_
            have hHeld : w129.cell? ⟨gb292, 0, none⟩ = some (.int .i64 (wrap64 (1 + t288))) ∧ w129.cell? ⟨gb292, 1, none⟩ = some (.int .i64 (wrap64 (1 + t290))) ∧ w129.cell? ⟨gb292, 2, none⟩ = some (.slice Ao123 x293002_1.length co123) := hS_
            obtain ⟨co130, eo130⟩ := HA_HO335.out
            clear HA_HO335
            subst eo130
            have p115 : 0 ≤ (t331 : Int) := of_decide_eq_true (by first | (with_reducible assumption) | assumption)
            have q115 : (t331 : Int) < ((x293002_1.length : Int) : Int) := of_decide_eq_true (by first | (with_reducible assumption) | assumption)
            obtain ⟨go115, oo115, co115, eo115, gb115, gl115, cl115, HG115⟩ := Kd.Q_form HO_293002.out (by omega)
            (first | cases eo115 | (injection eo115 with ea_ en_ ec_; (first | subst ea_ | (injection ea_ with ea_; subst ea_)); subst ec_; clear en_))
            have GB115 := Aside0.mk gb115
            have GG115 := Aside0.mk HG115
            clear gb115 gl115 HG115
            obtain ⟨ce115, hcl115, hM115, hcc115, hfr115⟩ := Kd.Q_elem HO_293002.out z39 (t331 : Int) p115 q115
            obtain rfl := k39_openM hM115
            have hx115_0 : World.cell? _ ⟨go115, oo115 + (t331 : Int).toNat * 4, none⟩ = some (.int .i64 ((rd_T39 x293002_1 t331).f0)) := hcc115 0 _ rfl
            have hx115_1 : World.cell? _ ⟨go115, oo115 + (t331 : Int).toNat * 4 + 1, none⟩ = some (.int .i64 ((rd_T39 x293002_1 t331).f1)) := hcc115 1 _ rfl
            have hx115_2 : World.cell? _ ⟨go115, oo115 + (t331 : Int).toNat * 4 + 2, none⟩ = some (.int .i64 ((rd_T39 x293002_1 t331).f2)) := hcc115 2 _ rfl
            have hx115_3 : World.cell? _ ⟨go115, oo115 + (t331 : Int).toNat * 4 + 3, none⟩ = some (.int .i64 ((rd_T39 x293002_1 t331).f3)) := hcc115 3 _ rfl
            have hf115_0 : World.frozen? _ ⟨go115, oo115 + (t331 : Int).toNat * 4, none⟩ = false := hfr115 0
            have hf115_1 : World.frozen? _ ⟨go115, oo115 + (t331 : Int).toNat * 4 + 1, none⟩ = false := hfr115 1
            have hf115_2 : World.frozen? _ ⟨go115, oo115 + (t331 : Int).toNat * 4 + 2, none⟩ = false := hfr115 2
            have hf115_3 : World.frozen? _ ⟨go115, oo115 + (t331 : Int).toNat * 4 + 3, none⟩ = false := hfr115 3
            clear hcl115 hcc115 hfr115 hM115
            replace p115 := eq_true p115
            replace q115 := eq_true q115
            have HN0_go115 := Aside0.mk (show g ≠ go115 from by have h_ := IsS82.own_neQ HI0.out HO_293002.out (by decide); intro e_; exact h_ (by rw [e_]; rfl))
            obtain ⟨ce131, hcl131, hM131, hcc131, hfr131⟩ := Kd.Q_elem HO_293002.out z39 (t331 : Int) (of_decide_eq_true (by first | (with_reducible assumption) | assumption)) (by have h_ : (t331 : Int) < ((x293002_1.length : Int) : Int) := of_decide_eq_true (by first | (with_reducible assumption) | assumption); first | exact h_ | (have e_ := (Kd.Q_reads' HO_293002.out).1; omega) | simpa using h_)
            obtain rfl := k39_openM hM131
            have HP131 := (Kd.Q_seg HO_293002.out (t331 : Int) (of_decide_eq_true (by first | (with_reducible assumption) | assumption)) (by have h_ : (t331 : Int) < ((x293002_1.length : Int) : Int) := of_decide_eq_true (by first | (with_reducible assumption) | assumption); first | exact h_ | (have e_ := (Kd.Q_reads' HO_293002.out).1; omega) | simpa using h_) (seg := [.int .i64 (rd y333 t336)]) (j := 1) hcl131 hcc131 (show 2 ≤ 4 from by decide) (x' := (⟨(rd_T39 x293002_1 t331).f0, rd y333 t336, (rd_T39 x293002_1 t331).f2, (rd_T39 x293002_1 t331).f3⟩ : S39)) (k39_mkM _ _ _ (⟨(rd_T39 x293002_1 t331).f0, rd y333 t336, (rd_T39 x293002_1 t331).f2, (rd_T39 x293002_1 t331).f3⟩ : S39) ) (fun _ hk => hk)).1
            rw [← Ny339.out] at HP131
            have HQ131 := Aside0.mk HP131
            clear hcl131 hcc131 hfr131 hM131 HP131
            refine norm_ (a' := ?_) ?_ ?_
            rotate_left
            ·simp only [putAll, Act.put, List.setIfInBounds_toArray, List.set_cons_zero, List.set_cons_succ]
             rfl
            refine pure_ (i := 10) (N := some 52) (v := ?_) (a' := ?_) #[true, true, true, true, true, true, true, true, true, true, true, false, false, false, false] rfl rfl (any_of HT_.out (by kernel_rfl)) (fun _ _ _ h => h) (Or.inl ⟨by rfl, ?_⟩) ?_ ?_
            rotate_left
            ·intro w'
             go_simp
             with_reducible rfl
            rotate_left
            ·simp only [Act.put, List.setIfInBounds_toArray, List.set_cons_zero, List.set_cons_succ, i64_w, i32_w]
             rfl
            refine one_ (i := 11) (N := some 53) #[true, true, true, true, true, true, true, true, true, true, true, true, false, false, false] rfl rfl (one_of HT_.out (by kernel_rfl)) (by decide) (fun K hK => ?_)
            (have p338 : 0 ≤ (t336 : Int) := of_decide_eq_true (by first | (with_reducible assumption) | assumption); have q338 : t336 < (y333.length : Int) := of_decide_eq_true (by first | (with_reducible assumption) | assumption); obtain ⟨ad338, e338, hx338_0⟩ := Kd.at_int (Kd.R_reads' HO335.out).2.2 t336 p338 q338; obtain rfl : adz_v334 = ad338 := (by injection e338))
            refine value_ (w1 := ?_) (v := ?_) (by rfl) rfl ?_ ?_
            rotate_left 2
            ·go_simp
             constructor
             ·rfl
             ·rfl
            clear hx338_0
            refine hK.out _ _ ⟨(blk_cell BK292.out 0).trans rfl, (blk_cell BK292.out 1).trans rfl, (blk_cell BK292.out 2).trans rfl⟩ (fun hHeld => ?_)
            clear hK K
            refine norm_ (a' := ?_) ?_ ?_
            rotate_left
            ·show Act.put _ (some 53) _ = _
             simp only [Act.put, List.setIfInBounds_toArray, List.set_cons_zero, List.set_cons_succ, i64_w, i32_w]
             rfl
            refine pure_ (i := 12) (N := some 54) (v := ?_) (a' := ?_) #[true, true, true, true, true, true, true, true, true, true, true, true, true, false, false] rfl rfl (any_of HT_.out (by kernel_rfl)) (fun _ _ _ h => h) (Or.inl ⟨by rfl, ?_⟩) ?_ ?_
            rotate_left
            ·intro w'
             go_simp
             with_reducible rfl
            rotate_left
            ·simp only [Act.put, List.setIfInBounds_toArray, List.set_cons_zero, List.set_cons_succ, i64_w, i32_w]
             rfl
            refine pure_ (i := 13) (N := some 55) (v := ?_) (a' := ?_) #[true, true, true, true, true, true, true, true, true, true, true, true, true, true, false] rfl rfl (any_of HT_.out (by kernel_rfl)) (fun _ _ _ h => h) (Or.inl ⟨by rfl, ?_⟩) ?_ ?_
            rotate_left
            ·intro w'
             go_simp
             with_reducible rfl
            rotate_left
            ·simp only [Act.put, List.setIfInBounds_toArray, List.set_cons_zero, List.set_cons_succ, i64_w, i32_w]
             rfl
            refine last_ (i := 14) (N := none) #[true, true, true, true, true, true, true, true, true, true, true, true, true, true, true] rfl rfl (one_of HT_.out (by kernel_rfl)) (by decide) (fun K hK => ?_)
            refine skip_ (w1 := ?_) (by rfl) rfl ?_ ?_
            rotate_left
            ·go_simp
             rfl
            refine hK.out _ _ ?_
            clear hK K
            refine done_ (done_of HT_.out (by kernel_rfl)) ?_
            have n0_ : Aside0 (Kd.Q k39 39 (w129.setCell ⟨go115, oo115 + (t331 : Int).toNat * 4 + 1, none⟩ (.int .i64 (rd y333 t336))) w.heap.size (fun k_ => k_ ≠ gb298) (.slice (some ⟨go115, oo115, none⟩) x293002_1.length co123) y339) := ⟨by (with_reducible repeat (first | apply Kd.Q_alloc | apply Kd.Q_drewN | apply Kd.Q_drew)); exact HQ131.out⟩
            have n1_ : Aside0 (Kd.R (Kd.int .i64) 3 (w129.setCell ⟨go115, oo115 + (t331 : Int).toNat * 4 + 1, none⟩ (.int .i64 (rd y333 t336))) w.heap.size (fun _ => True) (.slice (some adz_v334) y333.length co130) y333) := ⟨by (with_reducible repeat (first | apply Kd.R_alloc | apply Kd.R_drewN | apply Kd.R_drew)); exact Kd.R_mono (Kd.R_far (p := ⟨go115, oo115 + (t331 : Int).toNat * 4 + 1, none⟩) (Kd.R_types HO335.out GG115.out (by decide)) (fun _ hk => hk.2) (.int .i64 (rd y333 t336))) (fun _ hk => trivial)⟩
            have n2_ : Aside0 ((w129.setCell ⟨go115, oo115 + (t331 : Int).toNat * 4 + 1, none⟩ (.int .i64 (rd y333 t336))).heap[gb287]? = some (.cells #[.int .i64 0, .int .i64 0, .slice none 0 0] 36 (0, 0))) := ⟨by (with_reducible repeat (first | refine blk_drewN ?_ _ | refine blk_drew ?_ | refine blk_alloc ?_ _)); refine blk_far ?_ (by have h_ := Kd.Q_ne HO_293002.out BK287.out (by decide); intro e_; exact h_ (by rw [e_]; rfl)) _; (with_reducible repeat (first | refine blk_drewN ?_ _ | refine blk_drew ?_ | refine blk_alloc ?_ _)); exact BK287.out⟩
            have n3_ : Aside0 ((w129.setCell ⟨go115, oo115 + (t331 : Int).toNat * 4 + 1, none⟩ (.int .i64 (rd y333 t336))).heap[gb292]? = some (.cells #[.int .i64 (wrap64 (1 + t288)), .int .i64 (wrap64 (1 + t290)), .slice (some ⟨go115, oo115, none⟩) x293002_1.length co123] 36 (0, 0))) := ⟨by (with_reducible repeat (first | refine blk_drewN ?_ _ | refine blk_drew ?_ | refine blk_alloc ?_ _)); refine blk_far ?_ (by have h_ := Kd.Q_ne HO_293002.out BK292.out (by decide); intro e_; exact h_ (by rw [e_]; rfl)) _; (with_reducible repeat (first | refine blk_drewN ?_ _ | refine blk_drew ?_ | refine blk_alloc ?_ _)); exact BK292.out⟩
            have n4_ : Aside0 ((w129.setCell ⟨go115, oo115 + (t331 : Int).toNat * 4 + 1, none⟩ (.int .i64 (rd y333 t336))).heap[gb298]? = some (.cells #[.int .i64 x299000_1, .int .i64 x299001_1, .int .i64 x299002_1, .int .i64 x299003_1] 39 (0, 0))) := ⟨by (with_reducible repeat (first | refine blk_drewN ?_ _ | refine blk_drew ?_ | refine blk_alloc ?_ _)); refine blk_far ?_ (by have h_ := Kd.Q_away HO_293002.out (fun _ hk => hk); intro e_; exact h_ (by rw [e_]; rfl)) _; (with_reducible repeat (first | refine blk_drewN ?_ _ | refine blk_drew ?_ | refine blk_alloc ?_ _)); exact BK298.out⟩
            have n5_ : Aside0 (IsS82 w0 (w129.setCell ⟨go115, oo115 + (t331 : Int).toNat * 4 + 1, none⟩ (.int .i64 (rd y333 t336))) g s0_0 t337) := ⟨by repeat (first | (with_reducible first | exact HI0.out | apply IsS82.alloc | apply IsS82.drewN | apply IsS82.drew | apply IsS82.set_1 | refine IsS82.far ?_ HN0_go115.out _ | refine IsS82.far ?_ NB0_287.out _ | refine IsS82.far ?_ NB0_292.out _ | refine IsS82.far ?_ NB0_298.out _) | exact HI0.out)⟩
            have n6_ : Aside0 (KeepBut w (w129.setCell ⟨go115, oo115 + (t331 : Int).toNat * 4 + 1, none⟩ (.int .i64 (rd y333 t336))) g none) := ⟨by repeat (first | (with_reducible first | exact HK.out | apply KeepBut.set_ | apply keep_drewN | apply keep_drew | apply keep_alloc | refine keep_far ?_ GB115.out _ | refine keep_far ?_ GW287.out _ | refine keep_far ?_ GW292.out _ | refine keep_far ?_ GW298.out _) | exact HK.out)⟩
            have n7_ : Aside0 (Below w0.heap.size w0 (w129.setCell ⟨go115, oo115 + (t331 : Int).toNat * 4 + 1, none⟩ (.int .i64 (rd y333 t336)))) := ⟨by repeat (first | (with_reducible first | exact HB.out | apply below_alloc | apply pw_below_drewN | apply below_drew1 | refine below_set ?_ (Nat.le_trans HL.out GB115.out) | refine below_set ?_ (IsS82.ge HI0.out) | refine below_set ?_ GE287.out | refine below_set ?_ GE292.out | refine below_set ?_ GE298.out) | exact HB.out)⟩
            (try clear HO_293002)
            (try clear HO335)
            (try clear BK287)
            (try clear BK292)
            (try clear BK298)
            (try clear HI0)
            (try clear HK)
            (try clear HB)
            generalize (w129.setCell ⟨go115, oo115 + (t331 : Int).toNat * 4 + 1, none⟩ (.int .i64 (rd y333 t336))) = w132 at n0_ n1_ n2_ n3_ n4_ n5_ n6_ n7_ ⊢
            have HO_293002 := n0_
            have HO335 := n1_
            have BK287 := n2_
            have BK292 := n3_
            have BK298 := n4_
            have HI0 := n5_
            have HK := n6_
            have HB := n7_
            clear n0_ n1_ n2_ n3_ n4_ n5_ n6_ n7_
            have hcz133_0 : w132.cell? ⟨gb292, 0, none⟩ = some (.int .i64 (wrap64 (1 + t288))) := (blk_cell BK292.out 0).trans rfl
            have hcz133_1 : w132.cell? ⟨gb292, 1, none⟩ = some (.int .i64 (wrap64 (1 + t290))) := (blk_cell BK292.out 1).trans rfl
            have hcz133_2 : w132.cell? ⟨gb292, 2, none⟩ = some (.slice (some ⟨go115, oo115, none⟩) x293002_1.length co123) := (blk_cell BK292.out 2).trans rfl
            have hfz133_0 := blk_frozen BK292.out 0
            have hfz133_1 := blk_frozen BK292.out 1
            have hfz133_2 := blk_frozen BK292.out 2
            have hnb134 := NB287_298.out
            have hnc134 := NB298_287.out
            have hnb135 := NB287_0.out
            have hnc135 := NB0_287.out
            have hcz136_0 : w132.cell? ⟨gb287, 0, none⟩ = some (.int .i64 0) := (blk_cell BK287.out 0).trans rfl
            have hcz136_1 : w132.cell? ⟨gb287, 1, none⟩ = some (.int .i64 0) := (blk_cell BK287.out 1).trans rfl
            have hcz136_2 : w132.cell? ⟨gb287, 2, none⟩ = some (.slice none 0 0) := (blk_cell BK287.out 2).trans rfl
            have hfz136_0 := blk_frozen BK287.out 0
            have hfz136_1 := blk_frozen BK287.out 1
            have hfz136_2 := blk_frozen BK287.out 2
            try go_wp2
            refine bodyPost_ret (results_cell_row rfl _ _ gb287 36 #[.int .i64 (wrap64 (1 + t288)), .int .i64 (wrap64 (1 + t290)), .slice (some ⟨go115, oo115, none⟩) x293002_1.length co123] (0, 0) _ rfl (by (with_reducible repeat (first | refine blk_drewN ?_ _ | refine blk_drew ?_ | refine blk_alloc ?_ _)); refine blk_put (cs := #[.int .i64 (wrap64 (1 + t288)), .int .i64 (wrap64 (1 + t290)), .slice none 0 0]) ?_ 2 _ rfl; (with_reducible repeat (first | refine blk_drewN ?_ _ | refine blk_drew ?_ | refine blk_alloc ?_ _)); refine blk_put (cs := #[.int .i64 (wrap64 (1 + t288)), .int .i64 0, .slice none 0 0]) ?_ 1 _ rfl; (with_reducible repeat (first | refine blk_drewN ?_ _ | refine blk_drew ?_ | refine blk_alloc ?_ _)); refine blk_put (cs := #[.int .i64 0, .int .i64 0, .slice none 0 0]) ?_ 0 _ rfl; (with_reducible repeat (first | refine blk_drewN ?_ _ | refine blk_drew ?_ | refine blk_alloc ?_ _)); exact BK287.out) Try.underlying36 rfl (by kernel_rfl)) rfl ?_
            exact ⟨_, by first | rfl | (simp [errW_none, errW_some] <;> rfl) | (simp [*, errW_none, errW_some] <;> rfl), by (with_reducible repeat (first | apply Kd.Q_alloc | apply Kd.Q_drewN | apply Kd.Q_drew)); exact Kd.Q_mono (Kd.Q_far (p := ⟨gb287, 2, none⟩) (Kd.Q_far (p := ⟨gb287, 1, none⟩) (Kd.Q_far (p := ⟨gb287, 0, none⟩) (Kd.Q_types HO_293002.out BK287.out (by decide)) (fun _ hk => hk.2) (.int .i64 (wrap64 (1 + t288)))) (fun _ hk => hk.2) (.int .i64 (wrap64 (1 + t290)))) (fun _ hk => hk.2) (.slice (some ⟨go115, oo115, none⟩) x293002_1.length co123)) (fun _ hk => trivial), by repeat (first | (with_reducible first | exact HI0.out | apply IsS82.alloc | apply IsS82.drewN | apply IsS82.drew | apply IsS82.set_1 | refine IsS82.far ?_ NB0_287.out _ | refine IsS82.far ?_ NB0_292.out _ | refine IsS82.far ?_ NB0_298.out _) | exact HI0.out), by repeat (first | (with_reducible first | exact HB.out | apply below_alloc | apply pw_below_drewN | apply below_drew1 | refine below_set ?_ (IsS82.ge HI0.out) | refine below_set ?_ GE287.out | refine below_set ?_ GE292.out | refine below_set ?_ GE298.out) | exact HB.out), by repeat (first | (with_reducible first | exact HK.out | apply KeepBut.set_ | apply keep_drewN | apply keep_drew | apply keep_alloc | refine keep_far ?_ GW287.out _ | refine keep_far ?_ GW292.out _ | refine keep_far ?_ GW298.out _) | exact HK.out)⟩
           ·rw [if_neg c114] at H
            exact absurd H (by simp)
          ·rw [if_neg c113] at H
           exact absurd H (by simp)
         ·rw [if_neg c112] at H
          exact absurd H (by simp)
        ·rw [if_neg c111] at H
         exact absurd H (by simp)
    ·replace c51 := Bool.eq_false_iff.mpr c51
     subst c51
     have H1 : (some ((wrap64 (1 + t288)), (wrap64 (1 + t290)), x293002_1, t313)) = some (r1, r2, r3, r4) := by rw [if_neg (show ¬ (false = true) by decide)] at H; exact H
     clear H
     have H := H1
     clear H1
     simp only [Option.some.injEq, Prod.mk.injEq] at H
     obtain ⟨rfl, rfl, rfl, rfl⟩ := H
     have hnb137 := NB292_287.out
     have hnc137 := NB287_292.out
     have hnb138 := NB292_298.out
     have hnc138 := NB298_292.out
     have hnb139 := NB292_0.out
     have hnc139 := NB0_292.out
     have hcz140_0 : wr.cell? ⟨gb292, 0, none⟩ = some (.int .i64 (wrap64 (1 + t288))) := (blk_cell BK292.out 0).trans rfl
     have hcz140_1 : wr.cell? ⟨gb292, 1, none⟩ = some (.int .i64 (wrap64 (1 + t290))) := (blk_cell BK292.out 1).trans rfl
     have hcz140_2 : wr.cell? ⟨gb292, 2, none⟩ = some (u293002) := (blk_cell BK292.out 2).trans rfl
     have hfz140_0 := blk_frozen BK292.out 0
     have hfz140_1 := blk_frozen BK292.out 1
     have hfz140_2 := blk_frozen BK292.out 2
     go_wp2_with (first | ((with_reducible refine gate_callee (f := 63) rfl ?_); refine goesL_ (some 39) rfl rfl Try.func63 (by kernel_rfl) rfl #[.pointer (some ⟨g, 0, none⟩), .int .i64 a1] rfl (by (try simp only [List.map_toArray, List.map_cons, List.map_nil]); first | done | rfl | (simp only [List.length_drop, List.length_take]; rfl)) ?_; (with_reducible refine (spec_l20Rd_odd.calls k1 g s0_0 x1001_1 a1 false t313 w0 _ ?side1 ?side2 A50.out).mono ?_); (case side1 => repeat (first | (with_reducible first | exact HI0.out | apply IsS82.alloc | apply IsS82.drewN | apply IsS82.drew | apply IsS82.set_1 | refine IsS82.far ?_ NB0_287.out _ | refine IsS82.far ?_ NB0_292.out _ | refine IsS82.far ?_ NB0_298.out _) | exact HI0.out)); (case side2 => repeat (first | (with_reducible first | exact HB.out | apply below_alloc | apply pw_below_drewN | apply below_drew1 | refine below_set ?_ (IsS82.ge HI0.out) | refine below_set ?_ GE287.out | refine below_set ?_ GE292.out | refine below_set ?_ GE298.out) | exact HB.out)); rintro e w141 ⟨rfl, hi, hb, hk⟩; refine ⟨_, rfl, ?_⟩; have n0_ := Aside0.mk (Kd.Q_mono (Kd.Q_keep (IsS82.apartQ (show IsS82 w0 _ g s0_0 x1001_1 from by repeat (first | (with_reducible first | exact HI0.out | apply IsS82.alloc | apply IsS82.drewN | apply IsS82.drew | apply IsS82.set_1 | refine IsS82.far ?_ NB0_287.out _ | refine IsS82.far ?_ NB0_292.out _ | refine IsS82.far ?_ NB0_298.out _) | exact HI0.out)) (by (with_reducible repeat (first | apply Kd.Q_alloc | apply Kd.Q_drewN | apply Kd.Q_drew)); exact HO_293002.out) (by decide)) hk (fun _ h => h.2)) (fun _ h => h.1)); have n1_ := Aside0.mk (KeepBut.blk hk (g' := gb287) (o := .cells #[.int .i64 0, .int .i64 0, .slice none 0 0] 36 (0, 0)) (by (with_reducible repeat (first | refine blk_drewN ?_ _ | refine blk_drew ?_ | refine blk_alloc ?_ _)); exact BK287.out) NB287_0.out (by simp)); have n2_ := Aside0.mk (KeepBut.blk hk (g' := gb292) (o := .cells #[.int .i64 (wrap64 (1 + t288)), .int .i64 (wrap64 (1 + t290)), u293002] 36 (0, 0)) (by (with_reducible repeat (first | refine blk_drewN ?_ _ | refine blk_drew ?_ | refine blk_alloc ?_ _)); exact BK292.out) NB292_0.out (by simp)); have n3_ := Aside0.mk (KeepBut.blk hk (g' := gb298) (o := .cells #[.int .i64 x299000_1, .int .i64 x299001_1, .int .i64 x299002_1, .int .i64 x299003_1] 39 (0, 0)) (by (with_reducible repeat (first | refine blk_drewN ?_ _ | refine blk_drew ?_ | refine blk_alloc ?_ _)); exact BK298.out) NB298_0.out (by simp)); have n4_ := Aside0.mk (KeepBut.trans (by repeat (first | (with_reducible first | exact HK.out | apply KeepBut.set_ | apply keep_drewN | apply keep_drew | apply keep_alloc | refine keep_far ?_ GW287.out _ | refine keep_far ?_ GW292.out _ | refine keep_far ?_ GW298.out _) | exact HK.out)) hk (.inl rfl)); have n5_ := Aside0.mk (hb); have n6_ := Aside0.mk (hi); clear HO_293002; clear BK287; clear BK292; clear BK298; clear HK; clear HB; clear HI0; have HO_293002 := n0_; have BK287 := n1_; have BK292 := n2_; have BK298 := n3_; have HK := n4_; have HB := n5_; have HI0 := n6_; clear n0_ n1_ n2_ n3_ n4_ n5_ n6_; (try clear hb); (try clear hb2); (try clear hk); (try clear hi); have hcz142_0 : w141.cell? ⟨gb292, 0, none⟩ = some (.int .i64 (wrap64 (1 + t288))) := (blk_cell BK292.out 0).trans rfl; have hcz142_1 : w141.cell? ⟨gb292, 1, none⟩ = some (.int .i64 (wrap64 (1 + t290))) := (blk_cell BK292.out 1).trans rfl; have hcz142_2 : w141.cell? ⟨gb292, 2, none⟩ = some (u293002) := (blk_cell BK292.out 2).trans rfl; have hfz142_0 := blk_frozen BK292.out 0; have hfz142_1 := blk_frozen BK292.out 1; have hfz142_2 := blk_frozen BK292.out 2; have hnb143 := NB287_298.out; have hnc143 := NB298_287.out; have hnb144 := NB287_0.out; have hnc144 := NB0_287.out; have hcz145_0 : w141.cell? ⟨gb287, 0, none⟩ = some (.int .i64 0) := (blk_cell BK287.out 0).trans rfl; have hcz145_1 : w141.cell? ⟨gb287, 1, none⟩ = some (.int .i64 0) := (blk_cell BK287.out 1).trans rfl; have hcz145_2 : w141.cell? ⟨gb287, 2, none⟩ = some (.slice none 0 0) := (blk_cell BK287.out 2).trans rfl; have hfz145_0 := blk_frozen BK287.out 0; have hfz145_1 := blk_frozen BK287.out 1; have hfz145_2 := blk_frozen BK287.out 2; obtain ⟨Ao146, co146, eo146, _⟩ := Kd.Q_slice HO_293002.out; subst eo146))
     refine bodyPost_ret (results_cell_row rfl _ _ gb287 36 #[.int .i64 (wrap64 (1 + t288)), .int .i64 (wrap64 (1 + t290)), .slice Ao146 x293002_1.length co146] (0, 0) _ rfl (by (with_reducible repeat (first | refine blk_drewN ?_ _ | refine blk_drew ?_ | refine blk_alloc ?_ _)); refine blk_put (cs := #[.int .i64 (wrap64 (1 + t288)), .int .i64 (wrap64 (1 + t290)), .slice none 0 0]) ?_ 2 _ rfl; (with_reducible repeat (first | refine blk_drewN ?_ _ | refine blk_drew ?_ | refine blk_alloc ?_ _)); refine blk_put (cs := #[.int .i64 (wrap64 (1 + t288)), .int .i64 0, .slice none 0 0]) ?_ 1 _ rfl; (with_reducible repeat (first | refine blk_drewN ?_ _ | refine blk_drew ?_ | refine blk_alloc ?_ _)); refine blk_put (cs := #[.int .i64 0, .int .i64 0, .slice none 0 0]) ?_ 0 _ rfl; (with_reducible repeat (first | refine blk_drewN ?_ _ | refine blk_drew ?_ | refine blk_alloc ?_ _)); exact BK287.out) Try.underlying36 rfl (by kernel_rfl)) rfl ?_
     exact ⟨_, by first | rfl | (simp [errW_none, errW_some] <;> rfl) | (simp [*, errW_none, errW_some] <;> rfl), by (with_reducible repeat (first | apply Kd.Q_alloc | apply Kd.Q_drewN | apply Kd.Q_drew)); exact Kd.Q_mono (Kd.Q_far (p := ⟨gb287, 2, none⟩) (Kd.Q_far (p := ⟨gb287, 1, none⟩) (Kd.Q_far (p := ⟨gb287, 0, none⟩) (Kd.Q_types HO_293002.out BK287.out (by decide)) (fun _ hk => hk.2) (.int .i64 (wrap64 (1 + t288)))) (fun _ hk => hk.2) (.int .i64 (wrap64 (1 + t290)))) (fun _ hk => hk.2) (.slice Ao146 x293002_1.length co146)) (fun _ hk => trivial), by repeat (first | (with_reducible first | exact HI0.out | apply IsS82.alloc | apply IsS82.drewN | apply IsS82.drew | apply IsS82.set_1 | refine IsS82.far ?_ NB0_287.out _ | refine IsS82.far ?_ NB0_292.out _ | refine IsS82.far ?_ NB0_298.out _) | exact HI0.out), by repeat (first | (with_reducible first | exact HB.out | apply below_alloc | apply pw_below_drewN | apply below_drew1 | refine below_set ?_ (IsS82.ge HI0.out) | refine below_set ?_ GE287.out | refine below_set ?_ GE292.out | refine below_set ?_ GE298.out) | exact HB.out), by repeat (first | (with_reducible first | exact HK.out | apply KeepBut.set_ | apply keep_drewN | apply keep_drew | apply keep_alloc | refine keep_far ?_ GW287.out _ | refine keep_far ?_ GW292.out _ | refine keep_far ?_ GW298.out _) | exact HK.out)⟩

end Go.Proofs.Ytmkiajoanblkbaa.X
