/- Functions of the given program as plain Lean functions, and for each the proof that the machine's call comes to what its function says. No condition but what each theorem states. Written by a program of this session. -/
import Derived.Test.YthnmeogafklhnaaX0
import Derived.Test.YthnmeogafklhnaaX2
import Derived.Test.YthnmeogafklhnaaX9
import Derived.Test.YthnmeogafklhnaaX15
import Derived.Test.YthnmeogafklhnaaX32
import Derived.Test.YthnmeogafklhnaaX44
import Derived.Test.YthnmeogafklhnaaX45
import Derived.Test.YthnmeogafklhnaaX48
import Derived.Test.YthnmeogafklhnaaX51
namespace Go.Proofs.Ythnmeogafklhnaa.X
open Go.RowKit Go.Proofs.YthnmeogafklhnaaW.PrintWords Go.Proofs.YthnmeogafklhnaaW.PrintLast Go.Proofs.YthnmeogafklhnaaW.PrintMore Go.Proofs.Ythnmeogafklhnaa.Hyb
attribute [local go_sem] max2_int min2_int max_two min_two max_three min_three max_four min_four   -- for this text's walks alone
set_option linter.unusedVariables false
set_option linter.unusedSimpArgs false

attribute [local go_sem high] eqA38
/-! ### laws_FnOpSizeUp: function 14 -/
mutual
def laws_FnOpSizeUp.j0 : Nat → Bool → Int → Int → List (S38) → Option (Bool)
 | 0, _, _, _, _ => none
 | k + 1, x29, x1119000, x1119001, x1119002 => if x29 = true then ((impl_RasOk.f k x1119000 x1119001 x1119002).bind fun t1121 => ((spec_RasOk.f k x1119000 x1119001 x1119002).bind fun t1122 => (if (t1121 == t1122) = true then ((laws_eaOk.f).bind fun t1123 => (some t1123)) else (none)))) else ((laws_eaDo.f k x1119000 x1119001 x1119002 (([(⟨7, wrap64 (2 * x1119000), wrap64 (2 * x1119001), 0, 0⟩ : S27)] : List (S27)))).bind fun bt1127 => (laws_FnOpSizeUp.l0 k 0 x1119000 x1119001 x1119002 bt1127.1 bt1127.2.1 bt1127.2.2))
def laws_FnOpSizeUp.l0 : Nat → Int → Int → Int → List (S38) → Int → Int → List (S38) → Option (Bool)
 | 0, _, _, _, _, _, _, _ => none
 | k + 1, x6, x1119000, x1119001, x1119002, x1133000, x1133001, x1133002 => if x6 < (x1133002.length : Int) then (if 0 ≤ x6 then (if x1133000 = 0 then (none) else ((impl_RasAt.f k x1119000 x1119001 x1119002 (wrap64 (Int.tdiv (Int.tmod x6 x1133000) 2)) (wrap64 (Int.tdiv (wrap64 (Int.tdiv x6 x1133000)) 2))).bind fun bt1134 => (if (!(((rd_T38 x1133002 x6).f0) == bt1134.1) || (!(((rd_T38 x1133002 x6).f1) == bt1134.2.1) || (!(((rd_T38 x1133002 x6).f2) == bt1134.2.2.1) || (!(((rd_T38 x1133002 x6).f3) == bt1134.2.2.2))))) = true then (none) else (laws_FnOpSizeUp.l0 k (wrap64 (x6 + 1)) x1119000 x1119001 x1119002 x1133000 x1133001 x1133002)))) else (none)) else ((laws_eaDo.f k x1133000 x1133001 x1133002 (([(⟨7, x1119000, x1119001, 0, 0⟩ : S27)] : List (S27)))).bind fun bt1141 => ((laws_eaRas.f k bt1141.1 bt1141.2.1 bt1141.2.2 x1119000 x1119001 x1119002).bind fun t1146 => (some t1146)))
end
def laws_FnOpSizeUp.f (k : Nat) (l0 : List Int) : Option (Bool) := if (l0.length : Int) > 1048576 then (some true) else ((spec_DrawOpDo.f k l0).bind fun bt1108 => ((spec_RasOk.f k bt1108.1 bt1108.2.1 bt1108.2.2.1).bind fun t1120 => (if t1120 = true then (if (wrap64 (2 * bt1108.1)) > 6 then (laws_FnOpSizeUp.j0 k true bt1108.1 bt1108.2.1 bt1108.2.2.1) else (laws_FnOpSizeUp.j0 k (decide ((wrap64 (2 * bt1108.2.1)) > 6)) bt1108.1 bt1108.2.1 bt1108.2.2.1)) else (laws_FnOpSizeUp.j0 k true bt1108.1 bt1108.2.1 bt1108.2.2.1))))
theorem laws_FnOpSizeUp.mono_l : ∀ k, (∀ y0 y1 y2 y3, LeO (laws_FnOpSizeUp.j0 k y0 y1 y2 y3) (laws_FnOpSizeUp.j0 (k + 1) y0 y1 y2 y3)) ∧ (∀ y0 y1 y2 y3 y4 y5 y6, LeO (laws_FnOpSizeUp.l0 k y0 y1 y2 y3 y4 y5 y6) (laws_FnOpSizeUp.l0 (k + 1) y0 y1 y2 y3 y4 y5 y6))
 | 0 => ⟨(fun _ _ _ _ r h => nomatch (show none = some r from h)), (fun _ _ _ _ _ _ _ r h => nomatch (show none = some r from h))⟩
 | k + 1 => by
  obtain ⟨ih0, ih1⟩ := laws_FnOpSizeUp.mono_l k
  refine ⟨?_, ?_⟩
  ·intro y0 y1 y2 y3
   unfold laws_FnOpSizeUp.j0
   repeat' first
   | (with_reducible exact ih0 _ _ _ _)
   | (with_reducible exact ih1 _ _ _ _ _ _ _)
   | (with_reducible exact impl_RasAt.mono _ _ _ _ _ _)
   | (with_reducible exact impl_RasOk.mono _ _ _ _)
   | (with_reducible exact laws_eaDo.mono _ _ _ _ _)
   | (with_reducible exact laws_eaRas.mono _ _ _ _ _ _ _)
   | (with_reducible exact spec_DrawOpDo.mono _ _)
   | (with_reducible exact spec_RasOk.mono _ _ _ _)
   | (with_reducible exact LeO.refl _)
   | (with_reducible exact LeO.none _)
   | (with_reducible refine LeO.ite ?_ ?_)
   | (with_reducible refine LeO.bind ?_ (fun _ => ?_))
   | exact ih0 _ _ _ _
   | exact ih1 _ _ _ _ _ _ _
   | exact impl_RasAt.mono _ _ _ _ _ _
   | exact impl_RasOk.mono _ _ _ _
   | exact laws_eaDo.mono _ _ _ _ _
   | exact laws_eaRas.mono _ _ _ _ _ _ _
   | exact spec_DrawOpDo.mono _ _
   | exact spec_RasOk.mono _ _ _ _
   | exact LeO.none _
   | refine LeO.ite ?_ ?_
   | refine LeO.bind ?_ (fun _ => ?_)
  ·intro y0 y1 y2 y3 y4 y5 y6
   unfold laws_FnOpSizeUp.l0
   repeat' first
   | (with_reducible exact ih0 _ _ _ _)
   | (with_reducible exact ih1 _ _ _ _ _ _ _)
   | (with_reducible exact impl_RasAt.mono _ _ _ _ _ _)
   | (with_reducible exact impl_RasOk.mono _ _ _ _)
   | (with_reducible exact laws_eaDo.mono _ _ _ _ _)
   | (with_reducible exact laws_eaRas.mono _ _ _ _ _ _ _)
   | (with_reducible exact spec_DrawOpDo.mono _ _)
   | (with_reducible exact spec_RasOk.mono _ _ _ _)
   | (with_reducible exact LeO.refl _)
   | (with_reducible exact LeO.none _)
   | (with_reducible refine LeO.ite ?_ ?_)
   | (with_reducible refine LeO.bind ?_ (fun _ => ?_))
   | exact ih0 _ _ _ _
   | exact ih1 _ _ _ _ _ _ _
   | exact impl_RasAt.mono _ _ _ _ _ _
   | exact impl_RasOk.mono _ _ _ _
   | exact laws_eaDo.mono _ _ _ _ _
   | exact laws_eaRas.mono _ _ _ _ _ _ _
   | exact spec_DrawOpDo.mono _ _
   | exact spec_RasOk.mono _ _ _ _
   | exact LeO.none _
   | refine LeO.ite ?_ ?_
   | refine LeO.bind ?_ (fun _ => ?_)
theorem laws_FnOpSizeUp.mono : ∀ a0 k, LeO (laws_FnOpSizeUp.f k a0) (laws_FnOpSizeUp.f (k + 1) a0) := by
 intro a0 k
 obtain ⟨ih0, ih1⟩ := laws_FnOpSizeUp.mono_l k
 unfold laws_FnOpSizeUp.f
 repeat' first
   | (with_reducible exact ih0 _ _ _ _)
   | (with_reducible exact ih1 _ _ _ _ _ _ _)
   | (with_reducible exact impl_RasAt.mono _ _ _ _ _ _)
   | (with_reducible exact impl_RasOk.mono _ _ _ _)
   | (with_reducible exact laws_eaDo.mono _ _ _ _ _)
   | (with_reducible exact laws_eaRas.mono _ _ _ _ _ _ _)
   | (with_reducible exact spec_DrawOpDo.mono _ _)
   | (with_reducible exact spec_RasOk.mono _ _ _ _)
   | (with_reducible exact LeO.refl _)
   | (with_reducible exact LeO.none _)
   | (with_reducible refine LeO.ite ?_ ?_)
   | (with_reducible refine LeO.bind ?_ (fun _ => ?_))
   | exact ih0 _ _ _ _
   | exact ih1 _ _ _ _ _ _ _
   | exact impl_RasAt.mono _ _ _ _ _ _
   | exact impl_RasOk.mono _ _ _ _
   | exact laws_eaDo.mono _ _ _ _ _
   | exact laws_eaRas.mono _ _ _ _ _ _ _
   | exact spec_DrawOpDo.mono _ _
   | exact spec_RasOk.mono _ _ _ _
   | exact LeO.none _
   | refine LeO.ite ?_ ?_
   | refine LeO.bind ?_ (fun _ => ?_)
def laws_FnOpSizeUp.T5 : Bool × List (List Nat × List Nat) := (true, [([], []), ([0], [0]), ([], []), ([2, 1], [2]), ([1, 3], [1, 3]), ([4, 3], [4]), ([5, 5], [5]), ([5, 6], [5, 6]), ([7, 6, 0, 1, 2, 3, 4, 5, 6, 7], [7])])
def laws_FnOpSizeUp.B5 : List Nat := [0, 1, 0, 7, 15, 31, 63, 127, 255]
theorem laws_FnOpSizeUp.tab5 : rtab .any (opsOf Try.f14 5) = laws_FnOpSizeUp.T5 := by kernel_rfl
theorem laws_FnOpSizeUp.bits5 : waitsOk laws_FnOpSizeUp.T5.2 laws_FnOpSizeUp.B5 = true := by kernel_rfl
def laws_FnOpSizeUp.T10 : Bool × List (List Nat × List Nat) := (true, [([], []), ([0], [0]), ([], []), ([1, 2], [1, 2]), ([3], [3]), ([], []), ([], []), ([], []), ([7], [7]), ([6, 8], [6, 8]), ([9], [9]), ([], []), ([], []), ([12], [12]), ([11, 13], [11, 13]), ([14], [14]), ([5, 10, 15], [5, 10, 15]), ([4, 16], [4, 16])])
def laws_FnOpSizeUp.B10 : List Nat := [0, 1, 0, 7, 15, 0, 0, 0, 128, 448, 960, 0, 0, 4096, 14336, 30720, 65504, 131071]
theorem laws_FnOpSizeUp.tab10 : rtab .any (opsOf Try.f14 10) = laws_FnOpSizeUp.T10 := by kernel_rfl
theorem laws_FnOpSizeUp.bits10 : waitsOk laws_FnOpSizeUp.T10.2 laws_FnOpSizeUp.B10 = true := by kernel_rfl
def laws_FnOpSizeUp.T12 : Bool × List (List Nat × List Nat) := (true, [([], []), ([], []), ([1], [1]), ([], []), ([3], [3]), ([2, 4], [2, 4]), ([5], [5]), ([0, 6], [0, 6]), ([], []), ([7, 8, 7], [7, 8]), ([9, 9, 0, 1, 2, 3, 4, 5, 6, 7, 8, 9], [9])])
def laws_FnOpSizeUp.B12 : List Nat := [0, 0, 2, 0, 8, 30, 62, 127, 0, 511, 1023]
theorem laws_FnOpSizeUp.tab12 : rtab .any (opsOf Try.f14 12) = laws_FnOpSizeUp.T12 := by kernel_rfl
theorem laws_FnOpSizeUp.bits12 : waitsOk laws_FnOpSizeUp.T12.2 laws_FnOpSizeUp.B12 = true := by kernel_rfl
set_option maxHeartbeats 8000000 in
set_option maxRecDepth 100000 in
theorem laws_FnOpSizeUp.calls (k : Nat) (A0 : Option Addr) (c0 : Nat) (l0 : List Int) (r : Bool) (w : World) (hr0 : Kd.C (Kd.int .u8) w A0 l0.length l0) (hc0 : l0.length ≤ c0) (h : laws_FnOpSizeUp.f k l0 = some r) :
  Calls Try.prog 14 #[.slice A0 l0.length c0] w fun e w' => e = .returned (.bool r) ∧ Below w.heap.size w w' := by
 have hu25 := Try.underlying25
 have hu27 := Try.underlying27
 have hu38 := Try.underlying38
 have HR0 := Aside0.mk hr0
 have HC0 := Aside0.mk hc0
 clear hr0 hc0
 have HB := Aside0.mk (Below.refl w.heap.size w)
 have H : (if (l0.length : Int) > 1048576 then (some true) else ((spec_DrawOpDo.f k l0).bind fun bt1108 => ((spec_RasOk.f k bt1108.1 bt1108.2.1 bt1108.2.2.1).bind fun t1120 => (if t1120 = true then (if (wrap64 (2 * bt1108.1)) > 6 then (laws_FnOpSizeUp.j0 k true bt1108.1 bt1108.2.1 bt1108.2.2.1) else (laws_FnOpSizeUp.j0 k (decide ((wrap64 (2 * bt1108.2.1)) > 6)) bt1108.1 bt1108.2.1 bt1108.2.2.1)) else (laws_FnOpSizeUp.j0 k true bt1108.1 bt1108.2.1 bt1108.2.2.1))))) = some r := h
 clear h
 by_cases c2 : (l0.length : Int) > 1048576
 ·rw [if_pos c2] at H
  have c2b0 : decide (1048576 < (l0.length : Int)) = true := decide_eq_true c2
  have c2b1 : decide (1048576 < l0.length) = true := decide_eq_true (by omega)
  clear c2
  obtain rfl := Option.some.inj H
  go_enter Try.func14, Try.ntmps14
  go_wp2
  go_ret
  exact ⟨by first | rfl | (simp [errW_none, errW_some] <;> rfl) | (simp [*, errW_none, errW_some] <;> rfl), by repeat (first | (with_reducible first | exact HB.out | apply below_alloc | apply pw_below_drewN | apply below_drew1) | exact HB.out)⟩
 ·rw [if_neg c2] at H
  have c2b0 : decide (1048576 < (l0.length : Int)) = false := decide_eq_false c2
  have c2b1 : decide (1048576 < l0.length) = false := decide_eq_false (by omega)
  clear c2
  replace H := Option.bind_eq_some_iff.mp H
  obtain ⟨⟨t1108, t1109, t1110, t1113, t1114, t1115, t1116, t1117⟩, A30, H⟩ := H
  (try dsimp only at H)
  have A3 := Aside0.mk A30
  clear A30
  have HC4 := Aside0.mk H
  clear H
  go_enter Try.func14, Try.ntmps14
  go_upto_region 4 with (first | ((with_reducible refine gate_callee (f := 18) rfl ?_); refine goesL_ (some 12) rfl rfl Try.func18 oK rfl #[.slice A0 l0.length c0] rfl oA ?_; (with_reducible refine (spec_DrawOpDo.calls k _ _ l0 t1108 t1109 t1110 t1113 t1114 t1115 t1116 t1117 _ ?side1 ?side2 A3.out).mono ?_); (case side1 => repeat (first | exact HR0.out | (with_reducible refine Kd.C_alloc ?_ _) | (with_reducible refine Kd.C_drewN ?_ _) | (with_reducible refine Kd.C_drew ?_))); (case side2 => exact HC0.out); rintro e w5 ⟨v1111, rfl, ho0, hb⟩; refine ⟨_, rfl, ?_⟩; have n_ := o2_ (Kd.Q_lower ho0 (below_size (oB HB))) (o1_ (below_step (oB HB) hb)); clear HB; obtain ⟨HO1112, HB⟩ := n_; (try clear hb); (try clear hb2); (try clear hk); (try clear hi); (try clear ho0)) | ((with_reducible refine gate_dst (N := 3) rfl ?_); refine box_event ?hg (N := 3) ?hd (cs := #[.int .i64 0, .int .i64 0, .slice none 0 0]) (t := 25) ?hr ?_; (case hd => rfl); (case hg => rfl); (case hr => first | (go_simp; done) | (go_simp; rfl)); intro gb1118 hg w6 hbox hb; have n_ := o2_ (Kd.Q_below (oQ HO1112) hb) (o2_ (below_step (oB HB) hb) (o2_ (hbox) (o1_ ((oG hg (below_size (oB HB)) : w.heap.size ≤ gb1118))))); clear HO1112 HB; obtain ⟨HO1112, HB, BK1118, GE1118⟩ := n_; clear hb hbox hg) | ((with_reducible refine gate_dst (N := 4) rfl ?_); refine box_event ?hg (N := 4) ?hd (cs := #[.int .i64 0, .int .i64 0, .int .i64 0, .int .i64 0, .int .i64 0]) (t := 27) ?hr ?_; (case hd => rfl); (case hg => rfl); (case hr => first | (go_simp; done) | (go_simp; rfl)); intro gb1119 hg w7 hbox hb; have n_ := o2_ (Kd.Q_below (oQ HO1112) hb) (o2_ (blk_below (oP BK1118) hb) (o2_ (below_step (oB HB) hb) (o2_ (hbox) (o2_ ((oG hg (below_size (oB HB)) : w.heap.size ≤ gb1119)) (o2_ ((oL hg (blk_lt (oP BK1118)))) (o1_ ((oN hg (blk_lt (oP BK1118)))))))))); clear HO1112 BK1118 HB; obtain ⟨HO1112, BK1118, HB, BK1119, GE1119, NB1118_1119, NB1119_1118⟩ := n_; clear hb hbox hg; have hnb8 := NB1118_1119.out; have hnc8 := NB1119_1118.out; have hcz9_0 : w7.cell? ⟨gb1118, 0, none⟩ = some (.int .i64 0) := (blk_cell BK1118.out 0).trans rfl; have hcz9_1 : w7.cell? ⟨gb1118, 1, none⟩ = some (.int .i64 0) := (blk_cell BK1118.out 1).trans rfl; have hcz9_2 : w7.cell? ⟨gb1118, 2, none⟩ = some (.slice none 0 0) := (blk_cell BK1118.out 2).trans rfl; have hfz9_0 := blk_frozen BK1118.out 0; have hfz9_1 := blk_frozen BK1118.out 1; have hfz9_2 := blk_frozen BK1118.out 2; obtain ⟨Ao10, co10, eo10, _⟩ := Kd.Q_slice HO1112.out; subst eo10; have hcz11_0 : w7.cell? ⟨gb1119, 0, none⟩ = some (.int .i64 0) := (blk_cell BK1119.out 0).trans rfl; have hcz11_1 : w7.cell? ⟨gb1119, 1, none⟩ = some (.int .i64 0) := (blk_cell BK1119.out 1).trans rfl; have hcz11_2 : w7.cell? ⟨gb1119, 2, none⟩ = some (.int .i64 0) := (blk_cell BK1119.out 2).trans rfl; have hcz11_3 : w7.cell? ⟨gb1119, 3, none⟩ = some (.int .i64 0) := (blk_cell BK1119.out 3).trans rfl; have hcz11_4 : w7.cell? ⟨gb1119, 4, none⟩ = some (.int .i64 0) := (blk_cell BK1119.out 4).trans rfl; have hfz11_0 := blk_frozen BK1119.out 0; have hfz11_1 := blk_frozen BK1119.out 1; have hfz11_2 := blk_frozen BK1119.out 2; have hfz11_3 := blk_frozen BK1119.out 3; have hfz11_4 := blk_frozen BK1119.out 4))
  (try simp only [Act.put, List.setIfInBounds_toArray, List.set_cons_zero, List.set_cons_succ])
  go_cut [29] (fun v29 wc => ∃ (kq : Nat) (x29_3 : Bool), v29 = .bool x29_3 ∧ Aside0 (laws_FnOpSizeUp.j0 kq x29_3 t1108 t1109 t1110 = some r) ∧ Aside0 (kq ≤ k) ∧ Aside0 (Kd.Q k38 38 wc w.heap.size (fun _ => True) (.slice Ao10 t1110.length co10) t1110) ∧ Aside0 (wc.heap[gb1118]? = some (.cells #[.int .i64 t1108, .int .i64 t1109, (.slice Ao10 t1110.length co10)] 25 (0, 0))) ∧ Aside0 (wc.heap[gb1119]? = some (.cells #[.int .i64 t1113, .int .i64 t1114, .int .i64 t1115, .int .i64 t1116, .int .i64 t1117] 27 (0, 0))) ∧ Aside0 (Below w.heap.size w wc))
  case first =>
   have H := HC4.out
   clear HC4
   replace H := Option.bind_eq_some_iff.mp H
   obtain ⟨t1120, A120, H⟩ := H
   (try dsimp only at H)
   have A12 := Aside0.mk A120
   clear A120
   by_cases c13 : t1120 = true
   ·subst c13
    rw [if_pos rfl] at H
    by_cases c14 : (wrap64 (2 * t1108)) > 6
    ·rw [if_pos c14] at H
     have c14b0 : decide (6 < (wrap64 (2 * t1108))) = true := decide_eq_true c14
     clear c14
     (first | rw [c14b0] | (simp only [i64_w, i32_w]; rw [c14b0]) | skip)
     have H' := Aside0.mk H
     clear H
     have hnb15 := NB1118_1119.out
     have hnc15 := NB1119_1118.out
     have hcz16_0 : w7.cell? ⟨gb1118, 0, none⟩ = some (.int .i64 0) := (blk_cell BK1118.out 0).trans rfl
     have hcz16_1 : w7.cell? ⟨gb1118, 1, none⟩ = some (.int .i64 0) := (blk_cell BK1118.out 1).trans rfl
     have hcz16_2 : w7.cell? ⟨gb1118, 2, none⟩ = some (.slice none 0 0) := (blk_cell BK1118.out 2).trans rfl
     have hfz16_0 := blk_frozen BK1118.out 0
     have hfz16_1 := blk_frozen BK1118.out 1
     have hfz16_2 := blk_frozen BK1118.out 2
     go_wp2_with (first | ((with_reducible refine gate_callee (f := 24) rfl ?_); refine goesL_ (some 16) rfl rfl Try.func24 oK rfl #[.agg #[.int .i64 t1108, .int .i64 t1109, .slice Ao10 t1110.length co10]] rfl oA ?_; (with_reducible refine (spec_RasOk.calls k t1108 t1109 _ _ t1110 true _ ?side1 ?side2 A12.out).mono ?_); (case side1 => refine (Kd.Q_reads' (e := 38) (base := w.heap.size) (ok := fun k_ => True) (n := t1110.length) (c := co10) ?_).2.2; exact (by (with_reducible repeat (first | apply Kd.Q_alloc | apply Kd.Q_drewN | apply Kd.Q_drew)); exact (Kd.Q_mono (Kd.Q_mono (Kd.Q_far (p := ⟨gb1119, 4, none⟩) (Kd.Q_far (p := ⟨gb1119, 3, none⟩) (Kd.Q_far (p := ⟨gb1119, 2, none⟩) (Kd.Q_far (p := ⟨gb1119, 1, none⟩) (Kd.Q_far (p := ⟨gb1119, 0, none⟩) (Kd.Q_far (p := ⟨gb1118, 2, none⟩) (Kd.Q_far (p := ⟨gb1118, 1, none⟩) (Kd.Q_far (p := ⟨gb1118, 0, none⟩) (Kd.Q_types (Kd.Q_types HO1112.out BK1118.out oD) BK1119.out oD) (fun _ hk => hk.1.2) (.int .i64 t1108)) (fun _ hk => hk.1.2) (.int .i64 t1109)) (fun _ hk => hk.1.2) (.slice Ao10 t1110.length co10)) (fun _ hk => hk.2) (.int .i64 t1113)) (fun _ hk => hk.2) (.int .i64 t1114)) (fun _ hk => hk.2) (.int .i64 t1115)) (fun _ hk => hk.2) (.int .i64 t1116)) (fun _ hk => hk.2) (.int .i64 t1117)) (fun _ h_ => h_.1)) (fun _ h_ => h_.1)))); (case side2 => exact (Kd.Q_reads' HO1112.out).2.1); rintro e w17 ⟨rfl, hb⟩; refine ⟨_, rfl, ?_⟩; have n_ := o2_ (Kd.Q_below (by (with_reducible repeat (first | apply Kd.Q_alloc | apply Kd.Q_drewN | apply Kd.Q_drew)); exact (Kd.Q_mono (Kd.Q_mono (Kd.Q_far (p := ⟨gb1119, 4, none⟩) (Kd.Q_far (p := ⟨gb1119, 3, none⟩) (Kd.Q_far (p := ⟨gb1119, 2, none⟩) (Kd.Q_far (p := ⟨gb1119, 1, none⟩) (Kd.Q_far (p := ⟨gb1119, 0, none⟩) (Kd.Q_far (p := ⟨gb1118, 2, none⟩) (Kd.Q_far (p := ⟨gb1118, 1, none⟩) (Kd.Q_far (p := ⟨gb1118, 0, none⟩) (Kd.Q_types (Kd.Q_types HO1112.out BK1118.out oD) BK1119.out oD) (fun _ hk => hk.1.2) (.int .i64 t1108)) (fun _ hk => hk.1.2) (.int .i64 t1109)) (fun _ hk => hk.1.2) (.slice Ao10 t1110.length co10)) (fun _ hk => hk.2) (.int .i64 t1113)) (fun _ hk => hk.2) (.int .i64 t1114)) (fun _ hk => hk.2) (.int .i64 t1115)) (fun _ hk => hk.2) (.int .i64 t1116)) (fun _ hk => hk.2) (.int .i64 t1117)) (fun _ h_ => h_.1)) (fun _ h_ => h_.1))) hb) (o2_ (blk_below (g := gb1118) (o := .cells #[.int .i64 t1108, .int .i64 t1109, .slice Ao10 t1110.length co10] 25 (0, 0)) (by (with_reducible repeat (first | refine blk_drewN ?_ _ | refine blk_drew ?_ | refine blk_alloc ?_ _)); refine blk_far ?_ NB1118_1119.out _; (with_reducible repeat (first | refine blk_drewN ?_ _ | refine blk_drew ?_ | refine blk_alloc ?_ _)); refine blk_far ?_ NB1118_1119.out _; (with_reducible repeat (first | refine blk_drewN ?_ _ | refine blk_drew ?_ | refine blk_alloc ?_ _)); refine blk_far ?_ NB1118_1119.out _; (with_reducible repeat (first | refine blk_drewN ?_ _ | refine blk_drew ?_ | refine blk_alloc ?_ _)); refine blk_far ?_ NB1118_1119.out _; (with_reducible repeat (first | refine blk_drewN ?_ _ | refine blk_drew ?_ | refine blk_alloc ?_ _)); refine blk_far ?_ NB1118_1119.out _; (with_reducible repeat (first | refine blk_drewN ?_ _ | refine blk_drew ?_ | refine blk_alloc ?_ _)); refine blk_put (cs := #[.int .i64 t1108, .int .i64 t1109, .slice none 0 0]) ?_ 2 _ rfl; (with_reducible repeat (first | refine blk_drewN ?_ _ | refine blk_drew ?_ | refine blk_alloc ?_ _)); refine blk_put (cs := #[.int .i64 t1108, .int .i64 0, .slice none 0 0]) ?_ 1 _ rfl; (with_reducible repeat (first | refine blk_drewN ?_ _ | refine blk_drew ?_ | refine blk_alloc ?_ _)); refine blk_put (cs := #[.int .i64 0, .int .i64 0, .slice none 0 0]) ?_ 0 _ rfl; (with_reducible repeat (first | refine blk_drewN ?_ _ | refine blk_drew ?_ | refine blk_alloc ?_ _)); exact BK1118.out) hb) (o2_ (blk_below (g := gb1119) (o := .cells #[.int .i64 t1113, .int .i64 t1114, .int .i64 t1115, .int .i64 t1116, .int .i64 t1117] 27 (0, 0)) (by (with_reducible repeat (first | refine blk_drewN ?_ _ | refine blk_drew ?_ | refine blk_alloc ?_ _)); refine blk_put (cs := #[.int .i64 t1113, .int .i64 t1114, .int .i64 t1115, .int .i64 t1116, .int .i64 0]) ?_ 4 _ rfl; (with_reducible repeat (first | refine blk_drewN ?_ _ | refine blk_drew ?_ | refine blk_alloc ?_ _)); refine blk_put (cs := #[.int .i64 t1113, .int .i64 t1114, .int .i64 t1115, .int .i64 0, .int .i64 0]) ?_ 3 _ rfl; (with_reducible repeat (first | refine blk_drewN ?_ _ | refine blk_drew ?_ | refine blk_alloc ?_ _)); refine blk_put (cs := #[.int .i64 t1113, .int .i64 t1114, .int .i64 0, .int .i64 0, .int .i64 0]) ?_ 2 _ rfl; (with_reducible repeat (first | refine blk_drewN ?_ _ | refine blk_drew ?_ | refine blk_alloc ?_ _)); refine blk_put (cs := #[.int .i64 t1113, .int .i64 0, .int .i64 0, .int .i64 0, .int .i64 0]) ?_ 1 _ rfl; (with_reducible repeat (first | refine blk_drewN ?_ _ | refine blk_drew ?_ | refine blk_alloc ?_ _)); refine blk_put (cs := #[.int .i64 0, .int .i64 0, .int .i64 0, .int .i64 0, .int .i64 0]) ?_ 0 _ rfl; (with_reducible repeat (first | refine blk_drewN ?_ _ | refine blk_drew ?_ | refine blk_alloc ?_ _)); refine blk_far ?_ NB1119_1118.out _; (with_reducible repeat (first | refine blk_drewN ?_ _ | refine blk_drew ?_ | refine blk_alloc ?_ _)); refine blk_far ?_ NB1119_1118.out _; (with_reducible repeat (first | refine blk_drewN ?_ _ | refine blk_drew ?_ | refine blk_alloc ?_ _)); refine blk_far ?_ NB1119_1118.out _; (with_reducible repeat (first | refine blk_drewN ?_ _ | refine blk_drew ?_ | refine blk_alloc ?_ _)); exact BK1119.out) hb) (o1_ (below_step (oB HB) hb)))); clear HO1112 BK1118 BK1119 HB; obtain ⟨HO1112, BK1118, BK1119, HB⟩ := n_; (try clear hb); (try clear hb2); (try clear hk); (try clear hi); have hcz18_0 : w17.cell? ⟨gb1118, 0, none⟩ = some (.int .i64 t1108) := (blk_cell BK1118.out 0).trans rfl; have hcz18_1 : w17.cell? ⟨gb1118, 1, none⟩ = some (.int .i64 t1109) := (blk_cell BK1118.out 1).trans rfl; have hcz18_2 : w17.cell? ⟨gb1118, 2, none⟩ = some (.slice Ao10 t1110.length co10) := (blk_cell BK1118.out 2).trans rfl; have hfz18_0 := blk_frozen BK1118.out 0; have hfz18_1 := blk_frozen BK1118.out 1; have hfz18_2 := blk_frozen BK1118.out 2))
     go_meet
     case rel => exact ⟨_, (true), (by first | rfl | (simp; done) | (simp [*]; done)), H', ⟨by first | omega | exact Nat.le_refl _⟩, ⟨by (with_reducible repeat (first | apply Kd.Q_alloc | apply Kd.Q_drewN | apply Kd.Q_drew)); exact HO1112.out⟩, ⟨by (with_reducible repeat (first | refine blk_drewN ?_ _ | refine blk_drew ?_ | refine blk_alloc ?_ _)); exact BK1118.out⟩, ⟨by (with_reducible repeat (first | refine blk_drewN ?_ _ | refine blk_drew ?_ | refine blk_alloc ?_ _)); exact BK1119.out⟩, ⟨by repeat (first | (with_reducible first | exact HB.out | apply below_alloc | apply pw_below_drewN | apply below_drew1 | refine below_set ?_ GE1118.out | refine below_set ?_ GE1119.out) | exact HB.out)⟩⟩
    ·rw [if_neg c14] at H
     have c14b0 : decide (6 < (wrap64 (2 * t1108))) = false := decide_eq_false c14
     clear c14
     (first | rw [c14b0] | (simp only [i64_w, i32_w]; rw [c14b0]) | skip)
     have H' := Aside0.mk H
     clear H
     have hnb19 := NB1118_1119.out
     have hnc19 := NB1119_1118.out
     have hcz20_0 : w7.cell? ⟨gb1118, 0, none⟩ = some (.int .i64 0) := (blk_cell BK1118.out 0).trans rfl
     have hcz20_1 : w7.cell? ⟨gb1118, 1, none⟩ = some (.int .i64 0) := (blk_cell BK1118.out 1).trans rfl
     have hcz20_2 : w7.cell? ⟨gb1118, 2, none⟩ = some (.slice none 0 0) := (blk_cell BK1118.out 2).trans rfl
     have hfz20_0 := blk_frozen BK1118.out 0
     have hfz20_1 := blk_frozen BK1118.out 1
     have hfz20_2 := blk_frozen BK1118.out 2
     go_wp2_with (first | ((with_reducible refine gate_callee (f := 24) rfl ?_); refine goesL_ (some 16) rfl rfl Try.func24 oK rfl #[.agg #[.int .i64 t1108, .int .i64 t1109, .slice Ao10 t1110.length co10]] rfl oA ?_; (with_reducible refine (spec_RasOk.calls k t1108 t1109 _ _ t1110 true _ ?side1 ?side2 A12.out).mono ?_); (case side1 => refine (Kd.Q_reads' (e := 38) (base := w.heap.size) (ok := fun k_ => True) (n := t1110.length) (c := co10) ?_).2.2; exact (by (with_reducible repeat (first | apply Kd.Q_alloc | apply Kd.Q_drewN | apply Kd.Q_drew)); exact (Kd.Q_mono (Kd.Q_mono (Kd.Q_far (p := ⟨gb1119, 4, none⟩) (Kd.Q_far (p := ⟨gb1119, 3, none⟩) (Kd.Q_far (p := ⟨gb1119, 2, none⟩) (Kd.Q_far (p := ⟨gb1119, 1, none⟩) (Kd.Q_far (p := ⟨gb1119, 0, none⟩) (Kd.Q_far (p := ⟨gb1118, 2, none⟩) (Kd.Q_far (p := ⟨gb1118, 1, none⟩) (Kd.Q_far (p := ⟨gb1118, 0, none⟩) (Kd.Q_types (Kd.Q_types HO1112.out BK1118.out oD) BK1119.out oD) (fun _ hk => hk.1.2) (.int .i64 t1108)) (fun _ hk => hk.1.2) (.int .i64 t1109)) (fun _ hk => hk.1.2) (.slice Ao10 t1110.length co10)) (fun _ hk => hk.2) (.int .i64 t1113)) (fun _ hk => hk.2) (.int .i64 t1114)) (fun _ hk => hk.2) (.int .i64 t1115)) (fun _ hk => hk.2) (.int .i64 t1116)) (fun _ hk => hk.2) (.int .i64 t1117)) (fun _ h_ => h_.1)) (fun _ h_ => h_.1)))); (case side2 => exact (Kd.Q_reads' HO1112.out).2.1); rintro e w21 ⟨rfl, hb⟩; refine ⟨_, rfl, ?_⟩; have n_ := o2_ (Kd.Q_below (by (with_reducible repeat (first | apply Kd.Q_alloc | apply Kd.Q_drewN | apply Kd.Q_drew)); exact (Kd.Q_mono (Kd.Q_mono (Kd.Q_far (p := ⟨gb1119, 4, none⟩) (Kd.Q_far (p := ⟨gb1119, 3, none⟩) (Kd.Q_far (p := ⟨gb1119, 2, none⟩) (Kd.Q_far (p := ⟨gb1119, 1, none⟩) (Kd.Q_far (p := ⟨gb1119, 0, none⟩) (Kd.Q_far (p := ⟨gb1118, 2, none⟩) (Kd.Q_far (p := ⟨gb1118, 1, none⟩) (Kd.Q_far (p := ⟨gb1118, 0, none⟩) (Kd.Q_types (Kd.Q_types HO1112.out BK1118.out oD) BK1119.out oD) (fun _ hk => hk.1.2) (.int .i64 t1108)) (fun _ hk => hk.1.2) (.int .i64 t1109)) (fun _ hk => hk.1.2) (.slice Ao10 t1110.length co10)) (fun _ hk => hk.2) (.int .i64 t1113)) (fun _ hk => hk.2) (.int .i64 t1114)) (fun _ hk => hk.2) (.int .i64 t1115)) (fun _ hk => hk.2) (.int .i64 t1116)) (fun _ hk => hk.2) (.int .i64 t1117)) (fun _ h_ => h_.1)) (fun _ h_ => h_.1))) hb) (o2_ (blk_below (g := gb1118) (o := .cells #[.int .i64 t1108, .int .i64 t1109, .slice Ao10 t1110.length co10] 25 (0, 0)) (by (with_reducible repeat (first | refine blk_drewN ?_ _ | refine blk_drew ?_ | refine blk_alloc ?_ _)); refine blk_far ?_ NB1118_1119.out _; (with_reducible repeat (first | refine blk_drewN ?_ _ | refine blk_drew ?_ | refine blk_alloc ?_ _)); refine blk_far ?_ NB1118_1119.out _; (with_reducible repeat (first | refine blk_drewN ?_ _ | refine blk_drew ?_ | refine blk_alloc ?_ _)); refine blk_far ?_ NB1118_1119.out _; (with_reducible repeat (first | refine blk_drewN ?_ _ | refine blk_drew ?_ | refine blk_alloc ?_ _)); refine blk_far ?_ NB1118_1119.out _; (with_reducible repeat (first | refine blk_drewN ?_ _ | refine blk_drew ?_ | refine blk_alloc ?_ _)); refine blk_far ?_ NB1118_1119.out _; (with_reducible repeat (first | refine blk_drewN ?_ _ | refine blk_drew ?_ | refine blk_alloc ?_ _)); refine blk_put (cs := #[.int .i64 t1108, .int .i64 t1109, .slice none 0 0]) ?_ 2 _ rfl; (with_reducible repeat (first | refine blk_drewN ?_ _ | refine blk_drew ?_ | refine blk_alloc ?_ _)); refine blk_put (cs := #[.int .i64 t1108, .int .i64 0, .slice none 0 0]) ?_ 1 _ rfl; (with_reducible repeat (first | refine blk_drewN ?_ _ | refine blk_drew ?_ | refine blk_alloc ?_ _)); refine blk_put (cs := #[.int .i64 0, .int .i64 0, .slice none 0 0]) ?_ 0 _ rfl; (with_reducible repeat (first | refine blk_drewN ?_ _ | refine blk_drew ?_ | refine blk_alloc ?_ _)); exact BK1118.out) hb) (o2_ (blk_below (g := gb1119) (o := .cells #[.int .i64 t1113, .int .i64 t1114, .int .i64 t1115, .int .i64 t1116, .int .i64 t1117] 27 (0, 0)) (by (with_reducible repeat (first | refine blk_drewN ?_ _ | refine blk_drew ?_ | refine blk_alloc ?_ _)); refine blk_put (cs := #[.int .i64 t1113, .int .i64 t1114, .int .i64 t1115, .int .i64 t1116, .int .i64 0]) ?_ 4 _ rfl; (with_reducible repeat (first | refine blk_drewN ?_ _ | refine blk_drew ?_ | refine blk_alloc ?_ _)); refine blk_put (cs := #[.int .i64 t1113, .int .i64 t1114, .int .i64 t1115, .int .i64 0, .int .i64 0]) ?_ 3 _ rfl; (with_reducible repeat (first | refine blk_drewN ?_ _ | refine blk_drew ?_ | refine blk_alloc ?_ _)); refine blk_put (cs := #[.int .i64 t1113, .int .i64 t1114, .int .i64 0, .int .i64 0, .int .i64 0]) ?_ 2 _ rfl; (with_reducible repeat (first | refine blk_drewN ?_ _ | refine blk_drew ?_ | refine blk_alloc ?_ _)); refine blk_put (cs := #[.int .i64 t1113, .int .i64 0, .int .i64 0, .int .i64 0, .int .i64 0]) ?_ 1 _ rfl; (with_reducible repeat (first | refine blk_drewN ?_ _ | refine blk_drew ?_ | refine blk_alloc ?_ _)); refine blk_put (cs := #[.int .i64 0, .int .i64 0, .int .i64 0, .int .i64 0, .int .i64 0]) ?_ 0 _ rfl; (with_reducible repeat (first | refine blk_drewN ?_ _ | refine blk_drew ?_ | refine blk_alloc ?_ _)); refine blk_far ?_ NB1119_1118.out _; (with_reducible repeat (first | refine blk_drewN ?_ _ | refine blk_drew ?_ | refine blk_alloc ?_ _)); refine blk_far ?_ NB1119_1118.out _; (with_reducible repeat (first | refine blk_drewN ?_ _ | refine blk_drew ?_ | refine blk_alloc ?_ _)); refine blk_far ?_ NB1119_1118.out _; (with_reducible repeat (first | refine blk_drewN ?_ _ | refine blk_drew ?_ | refine blk_alloc ?_ _)); exact BK1119.out) hb) (o1_ (below_step (oB HB) hb)))); clear HO1112 BK1118 BK1119 HB; obtain ⟨HO1112, BK1118, BK1119, HB⟩ := n_; (try clear hb); (try clear hb2); (try clear hk); (try clear hi); have hcz22_0 : w21.cell? ⟨gb1118, 0, none⟩ = some (.int .i64 t1108) := (blk_cell BK1118.out 0).trans rfl; have hcz22_1 : w21.cell? ⟨gb1118, 1, none⟩ = some (.int .i64 t1109) := (blk_cell BK1118.out 1).trans rfl; have hcz22_2 : w21.cell? ⟨gb1118, 2, none⟩ = some (.slice Ao10 t1110.length co10) := (blk_cell BK1118.out 2).trans rfl; have hfz22_0 := blk_frozen BK1118.out 0; have hfz22_1 := blk_frozen BK1118.out 1; have hfz22_2 := blk_frozen BK1118.out 2))
     go_meet
     case rel => exact ⟨_, (decide ((wrap64 (2 * t1109)) > 6)), (by first | rfl | (simp; done) | (simp [*]; done)), H', ⟨by first | omega | exact Nat.le_refl _⟩, ⟨by (with_reducible repeat (first | apply Kd.Q_alloc | apply Kd.Q_drewN | apply Kd.Q_drew)); exact HO1112.out⟩, ⟨by (with_reducible repeat (first | refine blk_drewN ?_ _ | refine blk_drew ?_ | refine blk_alloc ?_ _)); exact BK1118.out⟩, ⟨by (with_reducible repeat (first | refine blk_drewN ?_ _ | refine blk_drew ?_ | refine blk_alloc ?_ _)); exact BK1119.out⟩, ⟨by repeat (first | (with_reducible first | exact HB.out | apply below_alloc | apply pw_below_drewN | apply below_drew1 | refine below_set ?_ GE1118.out | refine below_set ?_ GE1119.out) | exact HB.out)⟩⟩
   ·replace c13 := Bool.eq_false_iff.mpr c13
    subst c13
    rw [if_neg (show ¬ (false = true) by decide)] at H
    have H' := Aside0.mk H
    clear H
    have hnb23 := NB1118_1119.out
    have hnc23 := NB1119_1118.out
    have hcz24_0 : w7.cell? ⟨gb1118, 0, none⟩ = some (.int .i64 0) := (blk_cell BK1118.out 0).trans rfl
    have hcz24_1 : w7.cell? ⟨gb1118, 1, none⟩ = some (.int .i64 0) := (blk_cell BK1118.out 1).trans rfl
    have hcz24_2 : w7.cell? ⟨gb1118, 2, none⟩ = some (.slice none 0 0) := (blk_cell BK1118.out 2).trans rfl
    have hfz24_0 := blk_frozen BK1118.out 0
    have hfz24_1 := blk_frozen BK1118.out 1
    have hfz24_2 := blk_frozen BK1118.out 2
    go_wp2_with (first | ((with_reducible refine gate_callee (f := 24) rfl ?_); refine goesL_ (some 16) rfl rfl Try.func24 oK rfl #[.agg #[.int .i64 t1108, .int .i64 t1109, .slice Ao10 t1110.length co10]] rfl oA ?_; (with_reducible refine (spec_RasOk.calls k t1108 t1109 _ _ t1110 false _ ?side1 ?side2 A12.out).mono ?_); (case side1 => refine (Kd.Q_reads' (e := 38) (base := w.heap.size) (ok := fun k_ => True) (n := t1110.length) (c := co10) ?_).2.2; exact (by (with_reducible repeat (first | apply Kd.Q_alloc | apply Kd.Q_drewN | apply Kd.Q_drew)); exact (Kd.Q_mono (Kd.Q_mono (Kd.Q_far (p := ⟨gb1119, 4, none⟩) (Kd.Q_far (p := ⟨gb1119, 3, none⟩) (Kd.Q_far (p := ⟨gb1119, 2, none⟩) (Kd.Q_far (p := ⟨gb1119, 1, none⟩) (Kd.Q_far (p := ⟨gb1119, 0, none⟩) (Kd.Q_far (p := ⟨gb1118, 2, none⟩) (Kd.Q_far (p := ⟨gb1118, 1, none⟩) (Kd.Q_far (p := ⟨gb1118, 0, none⟩) (Kd.Q_types (Kd.Q_types HO1112.out BK1118.out oD) BK1119.out oD) (fun _ hk => hk.1.2) (.int .i64 t1108)) (fun _ hk => hk.1.2) (.int .i64 t1109)) (fun _ hk => hk.1.2) (.slice Ao10 t1110.length co10)) (fun _ hk => hk.2) (.int .i64 t1113)) (fun _ hk => hk.2) (.int .i64 t1114)) (fun _ hk => hk.2) (.int .i64 t1115)) (fun _ hk => hk.2) (.int .i64 t1116)) (fun _ hk => hk.2) (.int .i64 t1117)) (fun _ h_ => h_.1)) (fun _ h_ => h_.1)))); (case side2 => exact (Kd.Q_reads' HO1112.out).2.1); rintro e w25 ⟨rfl, hb⟩; refine ⟨_, rfl, ?_⟩; have n_ := o2_ (Kd.Q_below (by (with_reducible repeat (first | apply Kd.Q_alloc | apply Kd.Q_drewN | apply Kd.Q_drew)); exact (Kd.Q_mono (Kd.Q_mono (Kd.Q_far (p := ⟨gb1119, 4, none⟩) (Kd.Q_far (p := ⟨gb1119, 3, none⟩) (Kd.Q_far (p := ⟨gb1119, 2, none⟩) (Kd.Q_far (p := ⟨gb1119, 1, none⟩) (Kd.Q_far (p := ⟨gb1119, 0, none⟩) (Kd.Q_far (p := ⟨gb1118, 2, none⟩) (Kd.Q_far (p := ⟨gb1118, 1, none⟩) (Kd.Q_far (p := ⟨gb1118, 0, none⟩) (Kd.Q_types (Kd.Q_types HO1112.out BK1118.out oD) BK1119.out oD) (fun _ hk => hk.1.2) (.int .i64 t1108)) (fun _ hk => hk.1.2) (.int .i64 t1109)) (fun _ hk => hk.1.2) (.slice Ao10 t1110.length co10)) (fun _ hk => hk.2) (.int .i64 t1113)) (fun _ hk => hk.2) (.int .i64 t1114)) (fun _ hk => hk.2) (.int .i64 t1115)) (fun _ hk => hk.2) (.int .i64 t1116)) (fun _ hk => hk.2) (.int .i64 t1117)) (fun _ h_ => h_.1)) (fun _ h_ => h_.1))) hb) (o2_ (blk_below (g := gb1118) (o := .cells #[.int .i64 t1108, .int .i64 t1109, .slice Ao10 t1110.length co10] 25 (0, 0)) (by (with_reducible repeat (first | refine blk_drewN ?_ _ | refine blk_drew ?_ | refine blk_alloc ?_ _)); refine blk_far ?_ NB1118_1119.out _; (with_reducible repeat (first | refine blk_drewN ?_ _ | refine blk_drew ?_ | refine blk_alloc ?_ _)); refine blk_far ?_ NB1118_1119.out _; (with_reducible repeat (first | refine blk_drewN ?_ _ | refine blk_drew ?_ | refine blk_alloc ?_ _)); refine blk_far ?_ NB1118_1119.out _; (with_reducible repeat (first | refine blk_drewN ?_ _ | refine blk_drew ?_ | refine blk_alloc ?_ _)); refine blk_far ?_ NB1118_1119.out _; (with_reducible repeat (first | refine blk_drewN ?_ _ | refine blk_drew ?_ | refine blk_alloc ?_ _)); refine blk_far ?_ NB1118_1119.out _; (with_reducible repeat (first | refine blk_drewN ?_ _ | refine blk_drew ?_ | refine blk_alloc ?_ _)); refine blk_put (cs := #[.int .i64 t1108, .int .i64 t1109, .slice none 0 0]) ?_ 2 _ rfl; (with_reducible repeat (first | refine blk_drewN ?_ _ | refine blk_drew ?_ | refine blk_alloc ?_ _)); refine blk_put (cs := #[.int .i64 t1108, .int .i64 0, .slice none 0 0]) ?_ 1 _ rfl; (with_reducible repeat (first | refine blk_drewN ?_ _ | refine blk_drew ?_ | refine blk_alloc ?_ _)); refine blk_put (cs := #[.int .i64 0, .int .i64 0, .slice none 0 0]) ?_ 0 _ rfl; (with_reducible repeat (first | refine blk_drewN ?_ _ | refine blk_drew ?_ | refine blk_alloc ?_ _)); exact BK1118.out) hb) (o2_ (blk_below (g := gb1119) (o := .cells #[.int .i64 t1113, .int .i64 t1114, .int .i64 t1115, .int .i64 t1116, .int .i64 t1117] 27 (0, 0)) (by (with_reducible repeat (first | refine blk_drewN ?_ _ | refine blk_drew ?_ | refine blk_alloc ?_ _)); refine blk_put (cs := #[.int .i64 t1113, .int .i64 t1114, .int .i64 t1115, .int .i64 t1116, .int .i64 0]) ?_ 4 _ rfl; (with_reducible repeat (first | refine blk_drewN ?_ _ | refine blk_drew ?_ | refine blk_alloc ?_ _)); refine blk_put (cs := #[.int .i64 t1113, .int .i64 t1114, .int .i64 t1115, .int .i64 0, .int .i64 0]) ?_ 3 _ rfl; (with_reducible repeat (first | refine blk_drewN ?_ _ | refine blk_drew ?_ | refine blk_alloc ?_ _)); refine blk_put (cs := #[.int .i64 t1113, .int .i64 t1114, .int .i64 0, .int .i64 0, .int .i64 0]) ?_ 2 _ rfl; (with_reducible repeat (first | refine blk_drewN ?_ _ | refine blk_drew ?_ | refine blk_alloc ?_ _)); refine blk_put (cs := #[.int .i64 t1113, .int .i64 0, .int .i64 0, .int .i64 0, .int .i64 0]) ?_ 1 _ rfl; (with_reducible repeat (first | refine blk_drewN ?_ _ | refine blk_drew ?_ | refine blk_alloc ?_ _)); refine blk_put (cs := #[.int .i64 0, .int .i64 0, .int .i64 0, .int .i64 0, .int .i64 0]) ?_ 0 _ rfl; (with_reducible repeat (first | refine blk_drewN ?_ _ | refine blk_drew ?_ | refine blk_alloc ?_ _)); refine blk_far ?_ NB1119_1118.out _; (with_reducible repeat (first | refine blk_drewN ?_ _ | refine blk_drew ?_ | refine blk_alloc ?_ _)); refine blk_far ?_ NB1119_1118.out _; (with_reducible repeat (first | refine blk_drewN ?_ _ | refine blk_drew ?_ | refine blk_alloc ?_ _)); refine blk_far ?_ NB1119_1118.out _; (with_reducible repeat (first | refine blk_drewN ?_ _ | refine blk_drew ?_ | refine blk_alloc ?_ _)); exact BK1119.out) hb) (o1_ (below_step (oB HB) hb)))); clear HO1112 BK1118 BK1119 HB; obtain ⟨HO1112, BK1118, BK1119, HB⟩ := n_; (try clear hb); (try clear hb2); (try clear hk); (try clear hi)))
    go_meet
    case rel => exact ⟨_, (true), (by first | rfl | (simp; done) | (simp [*]; done)), H', ⟨by first | omega | exact Nat.le_refl _⟩, ⟨by (with_reducible repeat (first | apply Kd.Q_alloc | apply Kd.Q_drewN | apply Kd.Q_drew)); exact HO1112.out⟩, ⟨by (with_reducible repeat (first | refine blk_drewN ?_ _ | refine blk_drew ?_ | refine blk_alloc ?_ _)); exact BK1118.out⟩, ⟨by (with_reducible repeat (first | refine blk_drewN ?_ _ | refine blk_drew ?_ | refine blk_alloc ?_ _)); exact BK1119.out⟩, ⟨by repeat (first | (with_reducible first | exact HB.out | apply below_alloc | apply pw_below_drewN | apply below_drew1 | refine below_set ?_ GE1118.out | refine below_set ?_ GE1119.out) | exact HB.out)⟩⟩
  case rest =>
   clear HC4
   try clear c1
   try clear c2
   try clear c2b0
   try clear c2b1
   try clear p2
   try clear p6
   try clear c8
   try clear c13
   try clear c14
   try clear c14b0
   try clear c15
   try clear c18
   try clear c19
   try clear c23
   try clear c24
   try clear hcz11_0
   try clear hcz11_1
   try clear hcz11_2
   try clear hcz11_3
   try clear hcz11_4
   try clear hcz16_0
   try clear hcz16_1
   try clear hcz16_2
   try clear hcz18_0
   try clear hcz18_1
   try clear hcz18_2
   try clear hcz20_0
   try clear hcz20_1
   try clear hcz20_2
   try clear hcz22_0
   try clear hcz22_1
   try clear hcz22_2
   try clear hcz24_0
   try clear hcz24_1
   try clear hcz24_2
   try clear hcz9_0
   try clear hcz9_1
   try clear hcz9_2
   try clear hfz11_0
   try clear hfz11_1
   try clear hfz11_2
   try clear hfz11_3
   try clear hfz11_4
   try clear hfz16_0
   try clear hfz16_1
   try clear hfz16_2
   try clear hfz18_0
   try clear hfz18_1
   try clear hfz18_2
   try clear hfz20_0
   try clear hfz20_1
   try clear hfz20_2
   try clear hfz22_0
   try clear hfz22_1
   try clear hfz22_2
   try clear hfz24_0
   try clear hfz24_1
   try clear hfz24_2
   try clear hfz9_0
   try clear hfz9_1
   try clear hfz9_2
   obtain ⟨kq, x29_3, rfl, HA, HJ3, HO_1119002, BK1118, BK1119, HB⟩ := hcut
   cases kq with
   | zero => exact nomatch (show none = some _ from HA.out)
   | succ kj3 =>
    have H := HA.out
    clear HA
    simp only [laws_FnOpSizeUp.j0] at H
    by_cases c26 : x29_3 = true
    ·subst c26
     rw [if_pos rfl] at H
     replace H := Option.bind_eq_some_iff.mp H
     obtain ⟨t1121, A270, H⟩ := H
     (try dsimp only at H)
     have A27 := Aside0.mk A270
     clear A270
     replace H := Option.bind_eq_some_iff.mp H
     obtain ⟨t1122, A280, H⟩ := H
     (try dsimp only at H)
     have A28 := Aside0.mk A280
     clear A280
     by_cases c29 : (t1121 == t1122) = true
     ·rw [if_pos c29] at H
      have c29b0 : (t1121 == t1122) = true := c29
      (try (have c29b1 : decide (t1121 = t1122) = true := by simpa using c29))
      (try (have c29b2 : (t1121 == t1122) = true := by simpa using c29))
      clear c29
      replace H := Option.bind_eq_some_iff.mp H
      obtain ⟨t1123, A300, H⟩ := H
      (try dsimp only at H)
      have A30 := Aside0.mk A300
      clear A300
      obtain rfl := Option.some.inj H
      try go_wp2
      have n_ := o2_ (Kd.Q_drew HO_1119002.out) (o2_ (blk_drew BK1118.out) (o2_ (blk_drew BK1119.out) (o1_ (below_drew1 HB.out))))
      clear HO_1119002 BK1118 BK1119 HB
      obtain ⟨HO_1119002, BK1118, BK1119, HB⟩ := n_
      refine start_ (n := 9) (S := fun w' => w'.cell? ⟨gb1118, 0, none⟩ = some (.int .i64 t1108) ∧ w'.cell? ⟨gb1118, 1, none⟩ = some (.int .i64 t1109) ∧ w'.cell? ⟨gb1118, 2, none⟩ = some (.slice Ao10 t1110.length co10)) (ds := []) #[false, false, false, false, false, false, false, false, false] oK rfl rfl ⟨(blk_cell BK1118.out 0).trans rfl, (blk_cell BK1118.out 1).trans rfl, (blk_cell BK1118.out 2).trans rfl⟩ (fun hHeld => ?_); refine with_tabW laws_FnOpSizeUp.tab5 laws_FnOpSizeUp.bits5 (fun HT_ HW_ => ?_)
      generalize wc.drew = w31 at HO_1119002 BK1118 BK1119 HB hHeld ⊢
      refine take_ (i := 0) (N := some 30) (v := ?_) (a' := ?_) #[true, false, false, false, false, false, false, false, false] rfl rfl (take_ofW HT_.out HW_.out oK) (fun _ _ _ h => h) (Or.inl ⟨by rfl, ?_⟩) hHeld ?_ ?_
      rotate_left
      ·rintro w' ⟨s0, s1, s2⟩
       go_simp
       with_reducible rfl
      rotate_left
      ·simp only [Act.put, List.setIfInBounds_toArray, List.set_cons_zero, List.set_cons_succ, i64_w, i32_w]
       rfl
      refine take_ (i := 2) (N := some 32) (v := ?_) (a' := ?_) #[true, false, true, false, false, false, false, false, false] rfl rfl (take_ofW HT_.out HW_.out oK) (fun _ _ _ h => h) (Or.inl ⟨by rfl, ?_⟩) hHeld ?_ ?_
      rotate_left
      ·rintro w' ⟨s0, s1, s2⟩
       go_simp
       with_reducible rfl
      rotate_left
      ·simp only [Act.put, List.setIfInBounds_toArray, List.set_cons_zero, List.set_cons_succ, i64_w, i32_w]
       rfl
      refine one_ (i := 1) (N := some 31) #[true, true, true, false, false, false, false, false, false] rfl rfl (one_of HT_.out oK) oD (fun K hK => ?_)
      refine goes_ Try.func26 oK rfl #[.agg #[.int .i64 t1108, .int .i64 t1109, .slice Ao10 t1110.length co10]] (by rfl) rfl rfl oA ?_
      with_reducible refine (impl_RasOk.calls kj3 t1108 t1109 _ _ t1110 t1121 _ ?side1 ?side2 A27.out).mono ?_
      (case side1 => repeat (first | exact (Kd.Q_reads' HO_1119002.out).2.2 | (with_reducible refine Kd.C_alloc ?_ _) | (with_reducible refine Kd.C_drewN ?_ _) | (with_reducible refine Kd.C_drew ?_)))
      (case side2 => exact (Kd.Q_reads' HO_1119002.out).2.1)
      rintro e w32 ⟨rfl, hb⟩
      refine ⟨_, rfl, ?_⟩
      have n_ := o2_ (Kd.Q_below (oQ HO_1119002) hb) (o2_ (blk_below (oP BK1118) hb) (o2_ (blk_below (oP BK1119) hb) (o1_ (below_step (oB HB) hb))))
      clear HO_1119002 BK1118 BK1119 HB
      obtain ⟨HO_1119002, BK1118, BK1119, HB⟩ := n_
      (try clear hb)
      (try clear hb2)
      (try clear hk)
      (try clear hi)
      refine hK.out _ _ ⟨(blk_cell BK1118.out 0).trans rfl, (blk_cell BK1118.out 1).trans rfl, (blk_cell BK1118.out 2).trans rfl⟩ (fun hHeld => ?_)
      clear hK K
      refine norm_ (a' := ?_) ?_ ?_
      rotate_left
      ·show Act.put _ (some 31) _ = _
       simp only [Act.put, List.setIfInBounds_toArray, List.set_cons_zero, List.set_cons_succ, i64_w, i32_w]
       rfl
      refine one_ (i := 3) (N := some 33) #[true, true, true, true, false, false, false, false, false] rfl rfl (one_of HT_.out oK) oD (fun K hK => ?_)
      refine goes_ Try.func24 oK rfl #[.agg #[.int .i64 t1108, .int .i64 t1109, .slice Ao10 t1110.length co10]] (by rfl) rfl rfl oA ?_
      with_reducible refine (spec_RasOk.calls kj3 t1108 t1109 _ _ t1110 t1122 _ ?side1 ?side2 A28.out).mono ?_
      (case side1 => repeat (first | exact (Kd.Q_reads' HO_1119002.out).2.2 | (with_reducible refine Kd.C_alloc ?_ _) | (with_reducible refine Kd.C_drewN ?_ _) | (with_reducible refine Kd.C_drew ?_)))
      (case side2 => exact (Kd.Q_reads' HO_1119002.out).2.1)
      rintro e w33 ⟨rfl, hb⟩
      refine ⟨_, rfl, ?_⟩
      have n_ := o2_ (Kd.Q_below (oQ HO_1119002) hb) (o2_ (blk_below (oP BK1118) hb) (o2_ (blk_below (oP BK1119) hb) (o1_ (below_step (oB HB) hb))))
      clear HO_1119002 BK1118 BK1119 HB
      obtain ⟨HO_1119002, BK1118, BK1119, HB⟩ := n_
      (try clear hb)
      (try clear hb2)
      (try clear hk)
      (try clear hi)
      refine hK.out _ _ ⟨(blk_cell BK1118.out 0).trans rfl, (blk_cell BK1118.out 1).trans rfl, (blk_cell BK1118.out 2).trans rfl⟩ (fun hHeld => ?_)
      clear hK K
      refine norm_ (a' := ?_) ?_ ?_
      rotate_left
      ·show Act.put _ (some 33) _ = _
       simp only [Act.put, List.setIfInBounds_toArray, List.set_cons_zero, List.set_cons_succ, i64_w, i32_w]
       rfl
      refine pure_ (i := 4) (N := some 34) (v := ?_) (a' := ?_) #[true, true, true, true, true, false, false, false, false] rfl rfl (any_of HT_.out oK) (fun _ _ _ h => h) (Or.inl ⟨by rfl, ?_⟩) ?_ ?_
      rotate_left
      ·intro w'
       go_simp
       with_reducible rfl
      rotate_left
      ·simp only [Act.put, List.setIfInBounds_toArray, List.set_cons_zero, List.set_cons_succ, i64_w, i32_w]
       rfl
      refine pure_ (i := 5) (N := some 35) (v := ?_) (a' := ?_) #[true, true, true, true, true, true, false, false, false] rfl rfl (any_of HT_.out oK) (fun _ _ _ h => h) (Or.inl ⟨by rfl, ?_⟩) ?_ ?_
      rotate_left
      ·intro w'
       go_simp
       with_reducible rfl
      rotate_left
      ·simp only [Act.put, List.setIfInBounds_toArray, List.set_cons_zero, List.set_cons_succ, i64_w, i32_w]
       rfl
      refine one_ (i := 6) (N := some 36) #[true, true, true, true, true, true, true, false, false] rfl rfl (one_of HT_.out oK) oD (fun K hK => ?_)
      refine goes_ Try.func25 oK rfl #[] (by rfl) rfl rfl oA ?_
      with_reducible refine (laws_eaOk.calls  t1123 _ A30.out).mono ?_
      rintro e w34 ⟨rfl, hb⟩
      refine ⟨_, rfl, ?_⟩
      have n_ := o2_ (Kd.Q_below (oQ HO_1119002) hb) (o2_ (blk_below (oP BK1118) hb) (o2_ (blk_below (oP BK1119) hb) (o1_ (below_step (oB HB) hb))))
      clear HO_1119002 BK1118 BK1119 HB
      obtain ⟨HO_1119002, BK1118, BK1119, HB⟩ := n_
      (try clear hb)
      (try clear hb2)
      (try clear hk)
      (try clear hi)
      refine hK.out _ _ ⟨(blk_cell BK1118.out 0).trans rfl, (blk_cell BK1118.out 1).trans rfl, (blk_cell BK1118.out 2).trans rfl⟩ (fun hHeld => ?_)
      clear hK K
      refine norm_ (a' := ?_) ?_ ?_
      rotate_left
      ·show Act.put _ (some 36) _ = _
       simp only [Act.put, List.setIfInBounds_toArray, List.set_cons_zero, List.set_cons_succ, i64_w, i32_w]
       rfl
      refine pure_ (i := 7) (N := some 37) (v := ?_) (a' := ?_) #[true, true, true, true, true, true, true, true, false] rfl rfl (any_of HT_.out oK) (fun _ _ _ h => h) (Or.inl ⟨by rfl, ?_⟩) ?_ ?_
      rotate_left
      ·intro w'
       go_simp
       with_reducible rfl
      rotate_left
      ·simp only [Act.put, List.setIfInBounds_toArray, List.set_cons_zero, List.set_cons_succ, i64_w, i32_w]
       rfl
      refine pure_ (i := 8) (N := some 2) (v := ?_) (a' := ?_) #[true, true, true, true, true, true, true, true, true] rfl rfl (any_of HT_.out oK) (fun _ _ _ h => h) (Or.inl ⟨by rfl, ?_⟩) ?_ ?_
      rotate_left
      ·intro w'
       go_simp
       with_reducible rfl
      rotate_left
      ·simp only [Act.put, List.setIfInBounds_toArray, List.set_cons_zero, List.set_cons_succ, i64_w, i32_w]
       rfl
      refine done_ (done_of HT_.out oK) ?_
      try go_wp2
      go_ret
      exact ⟨by first | rfl | (simp [errW_none, errW_some] <;> rfl) | (simp [*, errW_none, errW_some] <;> rfl), by repeat (first | (with_reducible first | exact HB.out | apply below_alloc | apply pw_below_drewN | apply below_drew1 | refine below_set ?_ GE1118.out | refine below_set ?_ GE1119.out) | exact HB.out)⟩
     ·rw [if_neg c29] at H
      have c29b0 : (t1121 == t1122) = false := by simpa using c29
      (try (have c29b1 : decide (t1121 = t1122) = false := by simpa using c29))
      (try (have c29b2 : (t1121 == t1122) = false := by simpa using c29))
      (try (have c29b3 : ¬ (t1121 = t1122) := by simpa using c29))
      clear c29
      exact absurd H (by simp)
    ·replace c26 := Bool.eq_false_iff.mpr c26
     subst c26
     rw [if_neg (show ¬ (false = true) by decide)] at H
     obtain ⟨y1124, hy1124⟩ : ∃ y_ : List (S27), y_ = (([(⟨7, wrap64 (2 * t1108), wrap64 (2 * t1109), 0, 0⟩ : S27)] : List (S27))) := ⟨_, rfl⟩
     replace H : ((laws_eaDo.f kj3 t1108 t1109 t1110 y1124).bind fun bt1127 => (laws_FnOpSizeUp.l0 kj3 0 t1108 t1109 t1110 bt1127.1 bt1127.2.1 bt1127.2.2)) = some r := by first | (rw [hy1124]; with_reducible exact H) | (have H2_ := (Option.bind_some _ _).symm.trans H; rw [hy1124]; with_reducible exact H2_) | (have H2_ := (Option.bind_some _ _).symm.trans H; with_reducible exact H2_) | with_reducible exact H | (rw [hy1124]; exact H) | exact H
     have Ny1124 := Aside0.mk hy1124
     clear hy1124
     replace H := Option.bind_eq_some_iff.mp H
     obtain ⟨⟨t1127, t1128, t1129⟩, A350, H⟩ := H
     (try dsimp only at H)
     have A35 := Aside0.mk A350
     clear A350
     have H' := Aside0.mk H
     clear H
     have hnb36 := NB1118_1119.out
     have hnc36 := NB1119_1118.out
     have hcz37_0 : wc.cell? ⟨gb1118, 0, none⟩ = some (.int .i64 t1108) := (blk_cell BK1118.out 0).trans rfl
     have hcz37_1 : wc.cell? ⟨gb1118, 1, none⟩ = some (.int .i64 t1109) := (blk_cell BK1118.out 1).trans rfl
     have hcz37_2 : wc.cell? ⟨gb1118, 2, none⟩ = some (.slice Ao10 t1110.length co10) := (blk_cell BK1118.out 2).trans rfl
     have hfz37_0 := blk_frozen BK1118.out 0
     have hfz37_1 := blk_frozen BK1118.out 1
     have hfz37_2 := blk_frozen BK1118.out 2
     go_wp2_with (first | ((with_reducible refine gate_dst (N := 46) rfl ?_); refine Kd.R_lit k27 _ 27 ?hg (N := 46) ?hd (xs := ([(⟨7, wrap64 (2 * t1108), wrap64 (2 * t1109), 0, 0⟩ : S27)] : List (S27))) (inner := [.int .i64 7, .int .i64 (wrap64 (2 * t1108)), .int .i64 (wrap64 (2 * t1109)), .int .i64 0, .int .i64 0]) (ok := fun _ => True) (okp := fun _ => True) ?hr ?hp (fun _ hk => hk) trivial (Below.refl _ _) (Nat.le_refl _) (by simp) ?_; (case hd => rfl); (case hg => rfl); (case hr => first | (go_simp; done) | (go_simp; rfl)); (case hp => exact (Reps.c5 (show Kd.M k27 _ _ _ (⟨7, wrap64 (2 * t1108), wrap64 (2 * t1109), 0, 0⟩ : S27) [.int .i64 7, .int .i64 (wrap64 (2 * t1108)), .int .i64 (wrap64 (2 * t1109)), .int .i64 0, .int .i64 0] from (k27_mkM _ _ _ (⟨7, wrap64 (2 * t1108), wrap64 (2 * t1109), 0, 0⟩ : S27) )) (Reps.none _ _))); intro v1125 w38 ho39 hb hg_ hnew_; clear hg_ hnew_; (first | rw [← Ny1124.out] at ho39 | (simp only [Int.reduceToNat] at ho39; rw [← Ny1124.out] at ho39)); have n_ := o2_ (Kd.Q_below (oQ HO_1119002) hb) (o2_ (Kd.R_lower (Kd.R_newB ho39 (oP BK1119)) (below_size (oB HB))) (o2_ (blk_below (oP BK1118) hb) (o2_ (blk_below (oP BK1119) hb) (o1_ (below_step (oB HB) hb))))); clear HO_1119002 BK1118 BK1119 HB; obtain ⟨HO_1119002, HO1126, BK1118, BK1119, HB⟩ := n_; clear hb ho39; obtain ⟨Ao40, co40, eo40⟩ := Kd.R_slice HO1126.out; subst eo40) | ((with_reducible refine gate_callee (f := 27) rfl ?_); refine goesL_ (some 47) rfl rfl Try.func27 oK rfl #[.agg #[.int .i64 t1108, .int .i64 t1109, .slice Ao10 t1110.length co10], .slice Ao40 y1124.length co40] rfl oA ?_; (with_reducible refine (laws_eaDo.calls kj3 t1108 t1109 (fun k_ => some k_ = (.slice Ao10 t1110.length co10 : Value).ownBlock) _ _ t1110 _ _ y1124 t1127 t1128 t1129 _ ?side1 ?side2 ?side3 A35.out).mono ?_); (case side1 => exact Kd.Q_V (Kd.Q_tight rfl (Kd.Q_types (Kd.Q_types (Kd.Q_apart' (HO_1119002.out) (Kd.R_typed HO1126.out) oD) BK1118.out oD) BK1119.out oD))); (case side2 => repeat (first | exact (Kd.R_reads' HO1126.out).2.2 | (with_reducible refine Kd.C_alloc ?_ _) | (with_reducible refine Kd.C_drewN ?_ _) | (with_reducible refine Kd.C_drew ?_))); (case side3 => exact (Kd.R_reads' HO1126.out).2.1); rintro e w41 ⟨v1130, rfl, ho0, hb⟩; refine ⟨_, rfl, ?_⟩; have hq_ := (Kd.Q_types (Kd.Q_types (Kd.Q_apart' (HO_1119002.out) (Kd.R_typed HO1126.out) oD) BK1118.out oD) BK1119.out oD); have n_ := o2_ (Kd.Q_below (oQ HO_1119002) hb) (o2_ (Kd.V_lower (Kd.V_mono (ok' := fun k_ => some k_ ≠ (.slice Ao40 y1124.length co40 : Value).ownBlock ∧ k_ ≠ gb1118 ∧ k_ ≠ gb1119) ho0 (fun k_ hk_ => ⟨Or.elim hk_ (fun hs_ => (hq_.1 k_ hs_.symm).1.1.2) (fun hn_ => (Kd.fresh' (Kd.R_lt (oR HO1126)) k_ hn_)), Or.elim hk_ (fun hs_ => (hq_.1 k_ hs_.symm).1.2) (fun hn_ => (Kd.freshB (oP BK1118) k_ hn_)), Or.elim hk_ (fun hs_ => (hq_.1 k_ hs_.symm).2) (fun hn_ => (Kd.freshB (oP BK1119) k_ hn_))⟩)) (below_size (oB HB))) (o2_ (blk_below (oP BK1118) hb) (o2_ (blk_below (oP BK1119) hb) (o1_ (below_step (oB HB) hb))))); clear HO_1119002 BK1118 BK1119 HB; obtain ⟨HO_1119002, HO1131, BK1118, BK1119, HB⟩ := n_; clear hq_; (try clear hb); (try clear hb2); (try clear hk); (try clear hi); (try clear ho0)) | ((with_reducible refine gate_dst (N := 5) rfl ?_); refine box_event ?hg (N := 5) ?hd (cs := #[.int .i64 0, .int .i64 0, .slice none 0 0]) (t := 25) ?hr ?_; (case hd => rfl); (case hg => rfl); (case hr => first | (go_simp; done) | (go_simp; rfl)); intro gb1132 hg w42 hbox hb; have n_ := o2_ (Kd.Q_below (oQ HO_1119002) hb) (o2_ (Kd.V_below (Kd.V_elderB (oV HO1131) gb1132 (Nat.le_of_eq hg.symm)) hb) (o2_ (blk_below (oP BK1118) hb) (o2_ (blk_below (oP BK1119) hb) (o2_ (below_step (oB HB) hb) (o2_ (hbox) (o2_ ((oG hg (below_size (oB HB)) : w.heap.size ≤ gb1132)) (o2_ ((oL hg (blk_lt (oP BK1118)))) (o2_ ((oN hg (blk_lt (oP BK1118)))) (o2_ ((oL hg (blk_lt (oP BK1119)))) (o1_ ((oN hg (blk_lt (oP BK1119)))))))))))))); clear HO_1119002 HO1131 BK1118 BK1119 HB; obtain ⟨HO_1119002, HO1131, BK1118, BK1119, HB, BK1132, GE1132, NB1118_1132, NB1132_1118, NB1119_1132, NB1132_1119⟩ := n_; clear hb hbox hg; have hnb43 := NB1132_1118.out; have hnc43 := NB1118_1132.out; have hnb44 := NB1132_1119.out; have hnc44 := NB1119_1132.out; have hcz45_0 : w42.cell? ⟨gb1132, 0, none⟩ = some (.int .i64 0) := (blk_cell BK1132.out 0).trans rfl; have hcz45_1 : w42.cell? ⟨gb1132, 1, none⟩ = some (.int .i64 0) := (blk_cell BK1132.out 1).trans rfl; have hcz45_2 : w42.cell? ⟨gb1132, 2, none⟩ = some (.slice none 0 0) := (blk_cell BK1132.out 2).trans rfl; have hfz45_0 := blk_frozen BK1132.out 0; have hfz45_1 := blk_frozen BK1132.out 1; have hfz45_2 := blk_frozen BK1132.out 2; obtain ⟨Ao46, co46, eo46⟩ := Kd.V_slice HO1131.out; subst eo46))
     go_loopg [6] kj3 (fun kq v6 w' => ∃ (x6_2 : Int), v6 = .int .i64 x6_2 ∧ Aside0 (laws_FnOpSizeUp.l0 kq x6_2 t1108 t1109 t1110 t1127 t1128 t1129 = some r) ∧ Aside0 (kq ≤ kj3) ∧ Aside0 (Kd.Q k38 38 w' w.heap.size (fun _ => True) (.slice Ao10 t1110.length co10) t1110) ∧ Aside0 (Kd.V k38 38 w' w.heap.size (fun k_ => k_ ≠ gb1118 ∧ k_ ≠ gb1119 ∧ k_ ≠ gb1132) (.slice Ao46 t1129.length co46) t1129) ∧ Aside0 (w'.heap[gb1118]? = some (.cells #[.int .i64 t1108, .int .i64 t1109, (.slice Ao10 t1110.length co10)] 25 (0, 0))) ∧ Aside0 (w'.heap[gb1119]? = some (.cells #[.int .i64 t1113, .int .i64 t1114, .int .i64 t1115, .int .i64 t1116, .int .i64 t1117] 27 (0, 0))) ∧ Aside0 (w'.heap[gb1132]? = some (.cells #[.int .i64 t1127, .int .i64 t1128, (.slice Ao46 t1129.length co46)] 25 (0, 0))) ∧ Aside0 (Below w.heap.size w w'))
     case atStart => exact ⟨(0), (by first | rfl | (simp; done) | (simp [*]; done)), H', ⟨Nat.le_refl _⟩, ⟨by (with_reducible repeat (first | apply Kd.Q_alloc | apply Kd.Q_drewN | apply Kd.Q_drew)); exact Kd.Q_mono (Kd.Q_far (p := ⟨gb1132, 2, none⟩) (Kd.Q_far (p := ⟨gb1132, 1, none⟩) (Kd.Q_far (p := ⟨gb1132, 0, none⟩) (Kd.Q_types HO_1119002.out BK1132.out oD) (fun _ hk => hk.2) (.int .i64 t1127)) (fun _ hk => hk.2) (.int .i64 t1128)) (fun _ hk => hk.2) (.slice Ao46 t1129.length co46)) (fun _ hk => trivial)⟩, ⟨by (with_reducible repeat (first | apply Kd.V_alloc | apply Kd.V_drewN | apply Kd.V_drew)); exact Kd.V_mono (Kd.V_far (p := ⟨gb1132, 2, none⟩) (Kd.V_far (p := ⟨gb1132, 1, none⟩) (Kd.V_far (p := ⟨gb1132, 0, none⟩) (Kd.V_mono HO1131.out (fun k_ hk => (⟨hk, hk.2⟩ : _ ∧ k_ ≠ gb1132))) (fun _ hk => hk.2) (.int .i64 t1127)) (fun _ hk => hk.2) (.int .i64 t1128)) (fun _ hk => hk.2) (.slice Ao46 t1129.length co46)) (fun _ hk => ⟨hk.1.1.2.1, ⟨hk.1.1.2.2, hk.1.2⟩⟩)⟩, ⟨by (with_reducible repeat (first | refine blk_drewN ?_ _ | refine blk_drew ?_ | refine blk_alloc ?_ _)); refine blk_far ?_ NB1118_1132.out _; (with_reducible repeat (first | refine blk_drewN ?_ _ | refine blk_drew ?_ | refine blk_alloc ?_ _)); refine blk_far ?_ NB1118_1132.out _; (with_reducible repeat (first | refine blk_drewN ?_ _ | refine blk_drew ?_ | refine blk_alloc ?_ _)); refine blk_far ?_ NB1118_1132.out _; (with_reducible repeat (first | refine blk_drewN ?_ _ | refine blk_drew ?_ | refine blk_alloc ?_ _)); exact BK1118.out⟩, ⟨by (with_reducible repeat (first | refine blk_drewN ?_ _ | refine blk_drew ?_ | refine blk_alloc ?_ _)); refine blk_far ?_ NB1119_1132.out _; (with_reducible repeat (first | refine blk_drewN ?_ _ | refine blk_drew ?_ | refine blk_alloc ?_ _)); refine blk_far ?_ NB1119_1132.out _; (with_reducible repeat (first | refine blk_drewN ?_ _ | refine blk_drew ?_ | refine blk_alloc ?_ _)); refine blk_far ?_ NB1119_1132.out _; (with_reducible repeat (first | refine blk_drewN ?_ _ | refine blk_drew ?_ | refine blk_alloc ?_ _)); exact BK1119.out⟩, ⟨by (with_reducible repeat (first | refine blk_drewN ?_ _ | refine blk_drew ?_ | refine blk_alloc ?_ _)); refine blk_put (cs := #[.int .i64 t1127, .int .i64 t1128, .slice none 0 0]) ?_ 2 _ rfl; (with_reducible repeat (first | refine blk_drewN ?_ _ | refine blk_drew ?_ | refine blk_alloc ?_ _)); refine blk_put (cs := #[.int .i64 t1127, .int .i64 0, .slice none 0 0]) ?_ 1 _ rfl; (with_reducible repeat (first | refine blk_drewN ?_ _ | refine blk_drew ?_ | refine blk_alloc ?_ _)); refine blk_put (cs := #[.int .i64 0, .int .i64 0, .slice none 0 0]) ?_ 0 _ rfl; (with_reducible repeat (first | refine blk_drewN ?_ _ | refine blk_drew ?_ | refine blk_alloc ?_ _)); exact BK1132.out⟩, ⟨by repeat (first | (with_reducible first | exact HB.out | apply below_alloc | apply pw_below_drewN | apply below_drew1 | refine below_set ?_ GE1118.out | refine below_set ?_ GE1119.out | refine below_set ?_ GE1132.out) | exact HB.out)⟩⟩
     case round =>
      clear H'
      try clear c1
      try clear c2
      try clear c2b0
      try clear c2b1
      try clear p2
      try clear c3
      try clear c4
      try clear c5
      try clear p6
      try clear c8
      try clear c13
      try clear c14
      try clear c14b0
      try clear c15
      try clear c18
      try clear c19
      try clear c23
      try clear c24
      try clear c25
      try clear c26
      try clear c27
      try clear c29
      try clear c29b0
      try clear c29b1
      try clear c29b2
      try clear c36
      try clear c43
      try clear c44
      try clear hcz11_0
      try clear hcz11_1
      try clear hcz11_2
      try clear hcz11_3
      try clear hcz11_4
      try clear hcz16_0
      try clear hcz16_1
      try clear hcz16_2
      try clear hcz18_0
      try clear hcz18_1
      try clear hcz18_2
      try clear hcz20_0
      try clear hcz20_1
      try clear hcz20_2
      try clear hcz22_0
      try clear hcz22_1
      try clear hcz22_2
      try clear hcz24_0
      try clear hcz24_1
      try clear hcz24_2
      try clear hcz37_0
      try clear hcz37_1
      try clear hcz37_2
      try clear hcz45_0
      try clear hcz45_1
      try clear hcz45_2
      try clear hcz9_0
      try clear hcz9_1
      try clear hcz9_2
      try clear hfz11_0
      try clear hfz11_1
      try clear hfz11_2
      try clear hfz11_3
      try clear hfz11_4
      try clear hfz16_0
      try clear hfz16_1
      try clear hfz16_2
      try clear hfz18_0
      try clear hfz18_1
      try clear hfz18_2
      try clear hfz20_0
      try clear hfz20_1
      try clear hfz20_2
      try clear hfz22_0
      try clear hfz22_1
      try clear hfz22_2
      try clear hfz24_0
      try clear hfz24_1
      try clear hfz24_2
      try clear hfz37_0
      try clear hfz37_1
      try clear hfz37_2
      try clear hfz45_0
      try clear hfz45_1
      try clear hfz45_2
      try clear hfz9_0
      try clear hfz9_1
      try clear hfz9_2
      try clear p2
      try clear p6
      obtain ⟨x6_2, rfl, HA, HK2, HO_1119002, HO_1133002, BK1118, BK1119, BK1132, HB⟩ := hrel
      cases gk with
      | zero => exact nomatch (show none = some _ from HA.out)
      | succ k2 =>
       have H := HA.out
       clear HA
       simp only [laws_FnOpSizeUp.l0] at H
       by_cases c47 : x6_2 < (t1129.length : Int)
       ·rw [if_pos c47] at H
        have c47b0 : decide (x6_2 < (t1129.length : Int)) = true := decide_eq_true c47
        clear c47
        by_cases c48 : 0 ≤ x6_2
        ·rw [if_pos c48] at H
         have c48b0 : decide (0 ≤ x6_2) = true := decide_eq_true c48
         clear c48
         by_cases c49 : t1127 = 0
         ·rw [if_pos c49] at H
          exact absurd H (by simp)
         ·rw [if_neg c49] at H
          have c49b0 : (t1127 == 0) = false := beq_eq_false_iff_ne.mpr c49
          have c49b1 : (t1127 != 0) = true := bne_iff_ne.mpr c49
          replace H := Option.bind_eq_some_iff.mp H
          obtain ⟨⟨t1134, t1135, t1136, t1137⟩, A500, H⟩ := H
          (try dsimp only at H)
          have A50 := Aside0.mk A500
          clear A500
          by_cases c51 : (!(((rd_T38 t1129 x6_2).f0) == t1134) || (!(((rd_T38 t1129 x6_2).f1) == t1135) || (!(((rd_T38 t1129 x6_2).f2) == t1136) || (!(((rd_T38 t1129 x6_2).f3) == t1137))))) = true
          ·rw [if_pos c51] at H
           exact absurd H (by simp)
          ·rw [if_neg c51] at H
           have c51b0 : (!(((rd_T38 t1129 x6_2).f0) == t1134) || (!(((rd_T38 t1129 x6_2).f1) == t1135) || (!(((rd_T38 t1129 x6_2).f2) == t1136) || (!(((rd_T38 t1129 x6_2).f3) == t1137))))) = false := by simpa using c51
           clear c51
           have H' := Aside0.mk H
           clear H
           have hnb52 := NB1132_1118.out
           have hnc52 := NB1118_1132.out
           have hnb53 := NB1132_1119.out
           have hnc53 := NB1119_1132.out
           have hcz54_0 : wr.cell? ⟨gb1132, 0, none⟩ = some (.int .i64 t1127) := (blk_cell BK1132.out 0).trans rfl
           have hcz54_1 : wr.cell? ⟨gb1132, 1, none⟩ = some (.int .i64 t1128) := (blk_cell BK1132.out 1).trans rfl
           have hcz54_2 : wr.cell? ⟨gb1132, 2, none⟩ = some (.slice Ao46 t1129.length co46) := (blk_cell BK1132.out 2).trans rfl
           have hfz54_0 := blk_frozen BK1132.out 0
           have hfz54_1 := blk_frozen BK1132.out 1
           have hfz54_2 := blk_frozen BK1132.out 2
           try go_wp2
           have n_ := o2_ (Kd.Q_drew HO_1119002.out) (o2_ (Kd.V_drew HO_1133002.out) (o2_ (blk_drew BK1118.out) (o2_ (blk_drew BK1119.out) (o2_ (blk_drew BK1132.out) (o1_ (below_drew1 HB.out))))))
           clear HO_1119002 HO_1133002 BK1118 BK1119 BK1132 HB
           obtain ⟨HO_1119002, HO_1133002, BK1118, BK1119, BK1132, HB⟩ := n_
           have p1133 : 0 ≤ (x6_2 : Int) := of_decide_eq_true (by first | (with_reducible assumption) | assumption)
           have q1133 : x6_2 < (t1129.length : Int) := of_decide_eq_true (by first | (with_reducible assumption) | assumption)
           obtain ⟨ad1133, e1133, hx1133_0, hx1133_1, hx1133_2, hx1133_3⟩ := at_T38 (Kd.V_reads' HO_1133002.out).2.2 x6_2 p1133 q1133
           cases e1133
           replace p1133 := eq_true p1133
           replace q1133 := eq_true q1133
           refine start_ (n := 18) (S := fun w' => w'.cell? ⟨gb1132, 0, none⟩ = some (.int .i64 t1127) ∧ w'.cell? ⟨gb1132, 1, none⟩ = some (.int .i64 t1128) ∧ w'.cell? ⟨gb1132, 2, none⟩ = some (.slice (some ad1133) t1129.length co46) ∧ w'.cell? ⟨gb1118, 0, none⟩ = some (.int .i64 t1108) ∧ w'.cell? ⟨gb1118, 1, none⟩ = some (.int .i64 t1109) ∧ w'.cell? ⟨gb1118, 2, none⟩ = some (.slice Ao10 t1110.length co10) ∧ w'.cell? (ad1133.add ((x6_2).toNat * 4)) = some (.int .i64 ((rd_T38 t1129 x6_2).f0)) ∧ w'.cell? ⟨(ad1133.add ((x6_2).toNat * 4)).block, (ad1133.add ((x6_2).toNat * 4)).off + 1, none⟩ = some (.int .i64 ((rd_T38 t1129 x6_2).f1)) ∧ w'.cell? ⟨(ad1133.add ((x6_2).toNat * 4)).block, (ad1133.add ((x6_2).toNat * 4)).off + 2, none⟩ = some (.int .i64 ((rd_T38 t1129 x6_2).f2)) ∧ w'.cell? ⟨(ad1133.add ((x6_2).toNat * 4)).block, (ad1133.add ((x6_2).toNat * 4)).off + 3, none⟩ = some (.int .i64 ((rd_T38 t1129 x6_2).f3))) (ds := []) #[false, false, false, false, false, false, false, false, false, false, false, false, false, false, false, false, false, false] oK rfl rfl ⟨(blk_cell BK1132.out 0).trans rfl, (blk_cell BK1132.out 1).trans rfl, (blk_cell BK1132.out 2).trans rfl, (blk_cell BK1118.out 0).trans rfl, (blk_cell BK1118.out 1).trans rfl, (blk_cell BK1118.out 2).trans rfl, hx1133_0, hx1133_1, hx1133_2, hx1133_3⟩ (fun hHeld => ?_); refine with_tabW laws_FnOpSizeUp.tab10 laws_FnOpSizeUp.bits10 (fun HT_ HW_ => ?_)
           generalize wr.drew = w55 at HO_1119002 HO_1133002 BK1118 BK1119 BK1132 HB hx1133_0 hx1133_1 hx1133_2 hx1133_3 hHeld ⊢
           refine pure_ (i := 0) (N := some 55) (v := ?_) (a' := ?_) #[true, false, false, false, false, false, false, false, false, false, false, false, false, false, false, false, false, false] rfl rfl (any_of HT_.out oK) (fun _ _ _ h => h) (Or.inl ⟨by rfl, ?_⟩) ?_ ?_
           rotate_left
           ·intro w'
            go_simp
            with_reducible rfl
           rotate_left
           ·simp only [Act.put, List.setIfInBounds_toArray, List.set_cons_zero, List.set_cons_succ, i64_w, i32_w]
            rfl
           refine pure_ (i := 2) (N := some 57) (v := ?_) (a' := ?_) #[true, false, true, false, false, false, false, false, false, false, false, false, false, false, false, false, false, false] rfl rfl (any_of HT_.out oK) (fun _ _ _ h => h) (Or.inl ⟨by rfl, ?_⟩) ?_ ?_
           rotate_left
           ·intro w'
            go_simp
            with_reducible rfl
           rotate_left
           ·simp only [Act.put, List.setIfInBounds_toArray, List.set_cons_zero, List.set_cons_succ, i64_w, i32_w]
            rfl
           refine pure_ (i := 6) (N := some 61) (v := ?_) (a' := ?_) #[true, false, true, false, false, false, true, false, false, false, false, false, false, false, false, false, false, false] rfl rfl (any_of HT_.out oK) (fun _ _ _ h => h) (Or.inl ⟨by rfl, ?_⟩) ?_ ?_
           rotate_left
           ·intro w'
            go_simp
            with_reducible rfl
           rotate_left
           ·simp only [Act.put, List.setIfInBounds_toArray, List.set_cons_zero, List.set_cons_succ, i64_w, i32_w]
            rfl
           refine pure_ (i := 7) (N := some 62) (v := ?_) (a' := ?_) #[true, false, true, false, false, false, true, true, false, false, false, false, false, false, false, false, false, false] rfl rfl (any_of HT_.out oK) (fun _ _ _ h => h) (Or.inl ⟨by rfl, ?_⟩) ?_ ?_
           rotate_left
           ·intro w'
            go_simp
            with_reducible rfl
           rotate_left
           ·simp only [Act.put, List.setIfInBounds_toArray, List.set_cons_zero, List.set_cons_succ, i64_w, i32_w]
            rfl
           refine pure_ (i := 11) (N := some 66) (v := ?_) (a' := ?_) #[true, false, true, false, false, false, true, true, false, false, false, true, false, false, false, false, false, false] rfl rfl (any_of HT_.out oK) (fun _ _ _ h => h) (Or.inl ⟨by rfl, ?_⟩) ?_ ?_
           rotate_left
           ·intro w'
            go_simp
            with_reducible rfl
           rotate_left
           ·simp only [Act.put, List.setIfInBounds_toArray, List.set_cons_zero, List.set_cons_succ, i64_w, i32_w]
            rfl
           refine pure_ (i := 12) (N := some 67) (v := ?_) (a' := ?_) #[true, false, true, false, false, false, true, true, false, false, false, true, true, false, false, false, false, false] rfl rfl (any_of HT_.out oK) (fun _ _ _ h => h) (Or.inl ⟨by rfl, ?_⟩) ?_ ?_
           rotate_left
           ·intro w'
            go_simp
            with_reducible rfl
           rotate_left
           ·simp only [Act.put, List.setIfInBounds_toArray, List.set_cons_zero, List.set_cons_succ, i64_w, i32_w]
            rfl
           refine take_ (i := 1) (N := some 56) (v := ?_) (a' := ?_) #[true, true, true, false, false, false, true, true, false, false, false, true, true, false, false, false, false, false] rfl rfl (take_ofW HT_.out HW_.out oK) (fun _ _ _ h => h) (Or.inl ⟨by rfl, ?_⟩) hHeld ?_ ?_
           rotate_left
           ·rintro w' ⟨s0, s1, s2, s3, s4, s5, s6, s7, s8, s9⟩
            go_simp
            with_reducible rfl
           rotate_left
           ·simp only [Act.put, List.setIfInBounds_toArray, List.set_cons_zero, List.set_cons_succ, i64_w, i32_w]
            rfl
           refine pure_ (i := 3) (N := some 58) (v := ?_) (a' := ?_) #[true, true, true, true, false, false, true, true, false, false, false, true, true, false, false, false, false, false] rfl rfl (any_of HT_.out oK) (fun _ _ _ h => h) (Or.inl ⟨by rfl, ?_⟩) ?_ ?_
           rotate_left
           ·intro w'
            go_simp
            with_reducible rfl
           rotate_left
           ·simp only [Act.put, List.setIfInBounds_toArray, List.set_cons_zero, List.set_cons_succ, i64_w, i32_w]
            rfl
           refine take_ (i := 4) (N := some 59) (v := ?_) (a' := ?_) #[true, true, true, true, true, false, true, true, false, false, false, true, true, false, false, false, false, false] rfl rfl (take_ofW HT_.out HW_.out oK) (fun _ _ _ h => h) (Or.inl ⟨by rfl, ?_⟩) hHeld ?_ ?_
           rotate_left
           ·rintro w' ⟨s0, s1, s2, s3, s4, s5, s6, s7, s8, s9⟩
            go_simp
            with_reducible rfl
           rotate_left
           ·simp only [Act.put, List.setIfInBounds_toArray, List.set_cons_zero, List.set_cons_succ, i64_w, i32_w]
            rfl
           refine take_ (i := 5) (N := some 60) (v := ?_) (a' := ?_) #[true, true, true, true, true, true, true, true, false, false, false, true, true, false, false, false, false, false] rfl rfl (take_ofW HT_.out HW_.out oK) (fun _ _ _ h => h) (Or.inl ⟨by rfl, ?_⟩) hHeld ?_ ?_
           rotate_left
           ·rintro w' ⟨s0, s1, s2, s3, s4, s5, s6, s7, s8, s9⟩
            go_simp
            with_reducible rfl
           rotate_left
           ·simp only [Act.put, List.setIfInBounds_toArray, List.set_cons_zero, List.set_cons_succ, i64_w, i32_w]
            rfl
           refine take_ (i := 8) (N := some 63) (v := ?_) (a' := ?_) #[true, true, true, true, true, true, true, true, true, false, false, true, true, false, false, false, false, false] rfl rfl (take_ofW HT_.out HW_.out oK) (fun _ _ _ h => h) (Or.inl ⟨by rfl, ?_⟩) hHeld ?_ ?_
           rotate_left
           ·rintro w' ⟨s0, s1, s2, s3, s4, s5, s6, s7, s8, s9⟩
            go_simp
            with_reducible rfl
           rotate_left
           ·simp only [Act.put, List.setIfInBounds_toArray, List.set_cons_zero, List.set_cons_succ, i64_w, i32_w]
            rfl
           refine pure_ (i := 9) (N := some 64) (v := ?_) (a' := ?_) #[true, true, true, true, true, true, true, true, true, true, false, true, true, false, false, false, false, false] rfl rfl (any_of HT_.out oK) (fun _ _ _ h => h) (Or.inl ⟨by rfl, ?_⟩) ?_ ?_
           rotate_left
           ·intro w'
            go_simp
            with_reducible rfl
           rotate_left
           ·simp only [Act.put, List.setIfInBounds_toArray, List.set_cons_zero, List.set_cons_succ, i64_w, i32_w]
            rfl
           refine pure_ (i := 10) (N := some 65) (v := ?_) (a' := ?_) #[true, true, true, true, true, true, true, true, true, true, true, true, true, false, false, false, false, false] rfl rfl (any_of HT_.out oK) (fun _ _ _ h => h) (Or.inl ⟨by rfl, ?_⟩) ?_ ?_
           rotate_left
           ·intro w'
            go_simp
            with_reducible rfl
           rotate_left
           ·simp only [Act.put, List.setIfInBounds_toArray, List.set_cons_zero, List.set_cons_succ, i64_w, i32_w]
            rfl
           refine take_ (i := 13) (N := some 68) (v := ?_) (a' := ?_) #[true, true, true, true, true, true, true, true, true, true, true, true, true, true, false, false, false, false] rfl rfl (take_ofW HT_.out HW_.out oK) (fun _ _ _ h => h) (Or.inl ⟨by rfl, ?_⟩) hHeld ?_ ?_
           rotate_left
           ·rintro w' ⟨s0, s1, s2, s3, s4, s5, s6, s7, s8, s9⟩
            go_simp
            with_reducible rfl
           rotate_left
           ·simp only [Act.put, List.setIfInBounds_toArray, List.set_cons_zero, List.set_cons_succ, i64_w, i32_w]
            rfl
           refine pure_ (i := 14) (N := some 69) (v := ?_) (a' := ?_) #[true, true, true, true, true, true, true, true, true, true, true, true, true, true, true, false, false, false] rfl rfl (any_of HT_.out oK) (fun _ _ _ h => h) (Or.inl ⟨by rfl, ?_⟩) ?_ ?_
           rotate_left
           ·intro w'
            go_simp
            with_reducible rfl
           rotate_left
           ·simp only [Act.put, List.setIfInBounds_toArray, List.set_cons_zero, List.set_cons_succ, i64_w, i32_w]
            rfl
           refine pure_ (i := 15) (N := some 70) (v := ?_) (a' := ?_) #[true, true, true, true, true, true, true, true, true, true, true, true, true, true, true, true, false, false] rfl rfl (any_of HT_.out oK) (fun _ _ _ h => h) (Or.inl ⟨by rfl, ?_⟩) ?_ ?_
           rotate_left
           ·intro w'
            go_simp
            with_reducible rfl
           rotate_left
           ·simp only [Act.put, List.setIfInBounds_toArray, List.set_cons_zero, List.set_cons_succ, i64_w, i32_w]
            rfl
           refine one_ (i := 16) (N := some 71) #[true, true, true, true, true, true, true, true, true, true, true, true, true, true, true, true, true, false] rfl rfl (one_of HT_.out oK) oD (fun K hK => ?_)
           refine goes_ Try.func28 oK rfl #[.agg #[.int .i64 t1108, .int .i64 t1109, .slice Ao10 t1110.length co10], .int .i64 (wrap64 (Int.tdiv (Int.tmod x6_2 t1127) 2)), .int .i64 (wrap64 (Int.tdiv (wrap64 (Int.tdiv x6_2 t1127)) 2))] (by rfl) rfl rfl oA ?_
           with_reducible refine (impl_RasAt.calls k2 t1108 t1109 _ _ t1110 (wrap64 (Int.tdiv (Int.tmod x6_2 t1127) 2)) (wrap64 (Int.tdiv (wrap64 (Int.tdiv x6_2 t1127)) 2)) t1134 t1135 t1136 t1137 _ ?side1 ?side2 A50.out).mono ?_
           (case side1 => repeat (first | exact (Kd.Q_reads' HO_1119002.out).2.2 | (with_reducible refine Kd.C_alloc ?_ _) | (with_reducible refine Kd.C_drewN ?_ _) | (with_reducible refine Kd.C_drew ?_)))
           (case side2 => exact (Kd.Q_reads' HO_1119002.out).2.1)
           rintro e w56 ⟨rfl, hb⟩
           have HS6_ := (hb.cell (World.block_lt_of_cell? _ _ (hHeld.2.2.2.2.2.2.1))).trans (hHeld.2.2.2.2.2.2.1)
           have HS7_ := (hb.cell (World.block_lt_of_cell? _ _ (hHeld.2.2.2.2.2.2.2.1))).trans (hHeld.2.2.2.2.2.2.2.1)
           have HS8_ := (hb.cell (World.block_lt_of_cell? _ _ (hHeld.2.2.2.2.2.2.2.2.1))).trans (hHeld.2.2.2.2.2.2.2.2.1)
           have HS9_ := (hb.cell (World.block_lt_of_cell? _ _ (hHeld.2.2.2.2.2.2.2.2.2))).trans (hHeld.2.2.2.2.2.2.2.2.2)
           refine ⟨_, rfl, ?_⟩
           have n_ := o2_ (Kd.Q_below (oQ HO_1119002) hb) (o2_ (Kd.V_below (oV HO_1133002) hb) (o2_ (blk_below (oP BK1118) hb) (o2_ (blk_below (oP BK1119) hb) (o2_ (blk_below (oP BK1132) hb) (o1_ (below_step (oB HB) hb))))))
           clear HO_1119002 HO_1133002 BK1118 BK1119 BK1132 HB
           obtain ⟨HO_1119002, HO_1133002, BK1118, BK1119, BK1132, HB⟩ := n_
           (try clear hb)
           (try clear hb2)
           (try clear hk)
           (try clear hi)
           refine hK.out _ _ ⟨(blk_cell BK1132.out 0).trans rfl, (blk_cell BK1132.out 1).trans rfl, (blk_cell BK1132.out 2).trans rfl, (blk_cell BK1118.out 0).trans rfl, (blk_cell BK1118.out 1).trans rfl, (blk_cell BK1118.out 2).trans rfl, HS6_, HS7_, HS8_, HS9_⟩ (fun hHeld => ?_)
           clear hK K
           refine norm_ (a' := ?_) ?_ ?_
           rotate_left
           ·show Act.put _ (some 71) _ = _
            simp only [Act.put, List.setIfInBounds_toArray, List.set_cons_zero, List.set_cons_succ, i64_w, i32_w]
            rfl
           refine pure_ (i := 17) (N := some 72) (v := ?_) (a' := ?_) #[true, true, true, true, true, true, true, true, true, true, true, true, true, true, true, true, true, true] rfl rfl (any_of HT_.out oK) (fun _ _ _ h => h) (Or.inl ⟨by rfl, ?_⟩) ?_ ?_
           rotate_left
           ·intro w'
            go_simp
            with_reducible rfl
           rotate_left
           ·simp only [Act.put, List.setIfInBounds_toArray, List.set_cons_zero, List.set_cons_succ, i64_w, i32_w]
            rfl
           refine done_ (done_of HT_.out oK) ?_
           try go_wp2
           go_roundg k2
           case measure => have := HJ3.out; have := HK2.out; omega
           case rel => exact ⟨(wrap64 (x6_2 + 1)), (by first | rfl | (simp; done) | (simp [*]; done)), H', ⟨by have := HJ3.out; have := HK2.out; omega⟩, ⟨by (with_reducible repeat (first | apply Kd.Q_alloc | apply Kd.Q_drewN | apply Kd.Q_drew)); exact HO_1119002.out⟩, ⟨by (with_reducible repeat (first | apply Kd.V_alloc | apply Kd.V_drewN | apply Kd.V_drew)); exact HO_1133002.out⟩, ⟨by (with_reducible repeat (first | refine blk_drewN ?_ _ | refine blk_drew ?_ | refine blk_alloc ?_ _)); exact BK1118.out⟩, ⟨by (with_reducible repeat (first | refine blk_drewN ?_ _ | refine blk_drew ?_ | refine blk_alloc ?_ _)); exact BK1119.out⟩, ⟨by (with_reducible repeat (first | refine blk_drewN ?_ _ | refine blk_drew ?_ | refine blk_alloc ?_ _)); exact BK1132.out⟩, ⟨by repeat (first | (with_reducible first | exact HB.out | apply below_alloc | apply pw_below_drewN | apply below_drew1 | refine below_set ?_ GE1118.out | refine below_set ?_ GE1119.out | refine below_set ?_ GE1132.out) | exact HB.out)⟩⟩
        ·rw [if_neg c48] at H
         exact absurd H (by simp)
       ·rw [if_neg c47] at H
        have c47b0 : decide (x6_2 < (t1129.length : Int)) = false := decide_eq_false c47
        clear c47
        obtain ⟨y1138, hy1138⟩ : ∃ y_ : List (S27), y_ = (([(⟨7, t1108, t1109, 0, 0⟩ : S27)] : List (S27))) := ⟨_, rfl⟩
        replace H : ((laws_eaDo.f k2 t1127 t1128 t1129 y1138).bind fun bt1141 => ((laws_eaRas.f k2 bt1141.1 bt1141.2.1 bt1141.2.2 t1108 t1109 t1110).bind fun t1146 => (some t1146))) = some r := by first | (rw [hy1138]; with_reducible exact H) | (have H2_ := (Option.bind_some _ _).symm.trans H; rw [hy1138]; with_reducible exact H2_) | (have H2_ := (Option.bind_some _ _).symm.trans H; with_reducible exact H2_) | with_reducible exact H | (rw [hy1138]; exact H) | exact H
        have Ny1138 := Aside0.mk hy1138
        clear hy1138
        replace H := Option.bind_eq_some_iff.mp H
        obtain ⟨⟨t1141, t1142, t1143⟩, A570, H⟩ := H
        (try dsimp only at H)
        have A57 := Aside0.mk A570
        clear A570
        replace H := Option.bind_eq_some_iff.mp H
        obtain ⟨t1146, A580, H⟩ := H
        (try dsimp only at H)
        have A58 := Aside0.mk A580
        clear A580
        obtain rfl := Option.some.inj H
        have hnb59 := NB1132_1118.out
        have hnc59 := NB1118_1132.out
        have hnb60 := NB1132_1119.out
        have hnc60 := NB1119_1132.out
        have hcz61_0 : wr.cell? ⟨gb1132, 0, none⟩ = some (.int .i64 t1127) := (blk_cell BK1132.out 0).trans rfl
        have hcz61_1 : wr.cell? ⟨gb1132, 1, none⟩ = some (.int .i64 t1128) := (blk_cell BK1132.out 1).trans rfl
        have hcz61_2 : wr.cell? ⟨gb1132, 2, none⟩ = some (.slice Ao46 t1129.length co46) := (blk_cell BK1132.out 2).trans rfl
        have hfz61_0 := blk_frozen BK1132.out 0
        have hfz61_1 := blk_frozen BK1132.out 1
        have hfz61_2 := blk_frozen BK1132.out 2
        try go_wp2
        have n_ := o2_ (Kd.Q_drew HO_1119002.out) (o2_ (Kd.V_drew HO_1133002.out) (o2_ (blk_drew BK1118.out) (o2_ (blk_drew BK1119.out) (o2_ (blk_drew BK1132.out) (o1_ (below_drew1 HB.out))))))
        clear HO_1119002 HO_1133002 BK1118 BK1119 BK1132 HB
        obtain ⟨HO_1119002, HO_1133002, BK1118, BK1119, BK1132, HB⟩ := n_
        refine start_ (n := 11) (S := fun w' => w'.cell? ⟨gb1132, 0, none⟩ = some (.int .i64 t1127) ∧ w'.cell? ⟨gb1132, 1, none⟩ = some (.int .i64 t1128) ∧ w'.cell? ⟨gb1132, 2, none⟩ = some (.slice Ao46 t1129.length co46) ∧ w'.cell? ⟨gb1118, 0, none⟩ = some (.int .i64 t1108) ∧ w'.cell? ⟨gb1118, 1, none⟩ = some (.int .i64 t1109) ∧ w'.cell? ⟨gb1118, 2, none⟩ = some (.slice Ao10 t1110.length co10)) (ds := []) #[false, false, false, false, false, false, false, false, false, false, false] oK rfl rfl ⟨(blk_cell BK1132.out 0).trans rfl, (blk_cell BK1132.out 1).trans rfl, (blk_cell BK1132.out 2).trans rfl, (blk_cell BK1118.out 0).trans rfl, (blk_cell BK1118.out 1).trans rfl, (blk_cell BK1118.out 2).trans rfl⟩ (fun hHeld => ?_); refine with_tabW laws_FnOpSizeUp.tab12 laws_FnOpSizeUp.bits12 (fun HT_ HW_ => ?_)
        generalize wr.drew = w62 at HO_1119002 HO_1133002 BK1118 BK1119 BK1132 HB hHeld ⊢
        refine pure_ (i := 1) (N := some 74) (v := ?_) (a' := ?_) #[false, true, false, false, false, false, false, false, false, false, false] rfl rfl (any_of HT_.out oK) (fun _ _ _ h => h) (Or.inl ⟨by rfl, ?_⟩) ?_ ?_
        rotate_left
        ·intro w'
         go_simp
         with_reducible rfl
        rotate_left
        ·simp only [Act.put, List.setIfInBounds_toArray, List.set_cons_zero, List.set_cons_succ, i64_w, i32_w]
         rfl
        refine pure_ (i := 3) (N := some 76) (v := ?_) (a' := ?_) #[false, true, false, true, false, false, false, false, false, false, false] rfl rfl (any_of HT_.out oK) (fun _ _ _ h => h) (Or.inl ⟨by rfl, ?_⟩) ?_ ?_
        rotate_left
        ·intro w'
         go_simp
         with_reducible rfl
        rotate_left
        ·simp only [Act.put, List.setIfInBounds_toArray, List.set_cons_zero, List.set_cons_succ, i64_w, i32_w]
         rfl
        refine take_ (i := 0) (N := some 73) (v := ?_) (a' := ?_) #[true, true, false, true, false, false, false, false, false, false, false] rfl rfl (take_ofW HT_.out HW_.out oK) (fun _ _ _ h => h) (Or.inl ⟨by rfl, ?_⟩) hHeld ?_ ?_
        rotate_left
        ·rintro w' ⟨s0, s1, s2, s3, s4, s5⟩
         go_simp
         with_reducible rfl
        rotate_left
        ·simp only [Act.put, List.setIfInBounds_toArray, List.set_cons_zero, List.set_cons_succ, i64_w, i32_w]
         rfl
        refine take_ (i := 2) (N := some 75) (v := ?_) (a' := ?_) #[true, true, true, true, false, false, false, false, false, false, false] rfl rfl (take_ofW HT_.out HW_.out oK) (fun _ _ _ h => h) (Or.inl ⟨by rfl, ?_⟩) hHeld ?_ ?_
        rotate_left
        ·rintro w' ⟨s0, s1, s2, s3, s4, s5⟩
         go_simp
         with_reducible rfl
        rotate_left
        ·simp only [Act.put, List.setIfInBounds_toArray, List.set_cons_zero, List.set_cons_succ, i64_w, i32_w]
         rfl
        refine take_ (i := 4) (N := some 77) (v := ?_) (a' := ?_) #[true, true, true, true, true, false, false, false, false, false, false] rfl rfl (take_ofW HT_.out HW_.out oK) (fun _ _ _ h => h) (Or.inl ⟨by rfl, ?_⟩) hHeld ?_ ?_
        rotate_left
        ·rintro w' ⟨s0, s1, s2, s3, s4, s5⟩
         go_simp
         with_reducible rfl
        rotate_left
        ·simp only [Act.put, List.setIfInBounds_toArray, List.set_cons_zero, List.set_cons_succ, i64_w, i32_w]
         rfl
        refine pure_ (i := 5) (N := some 78) (v := ?_) (a' := ?_) #[true, true, true, true, true, true, false, false, false, false, false] rfl rfl (any_of HT_.out oK) (fun _ _ _ h => h) (Or.inl ⟨by rfl, ?_⟩) ?_ ?_
        rotate_left
        ·intro w'
         go_simp
         with_reducible rfl
        rotate_left
        ·simp only [Act.put, List.setIfInBounds_toArray, List.set_cons_zero, List.set_cons_succ, i64_w, i32_w]
         rfl
        refine take_ (i := 8) (N := some 81) (v := ?_) (a' := ?_) #[true, true, true, true, true, true, false, false, true, false, false] rfl rfl (take_ofW HT_.out HW_.out oK) (fun _ _ _ h => h) (Or.inl ⟨by rfl, ?_⟩) hHeld ?_ ?_
        rotate_left
        ·rintro w' ⟨s0, s1, s2, s3, s4, s5⟩
         go_simp
         with_reducible rfl
        rotate_left
        ·simp only [Act.put, List.setIfInBounds_toArray, List.set_cons_zero, List.set_cons_succ, i64_w, i32_w]
         rfl
        refine one_ (i := 6) (N := some 79) #[true, true, true, true, true, true, true, false, true, false, false] rfl rfl (one_of HT_.out oK) oD (fun K hK => ?_)
        refine Kd.R_lit_step k27 _ 27 ?hg (N := 79) ?hd (xs := ([(⟨7, t1108, t1109, 0, 0⟩ : S27)] : List (S27))) (inner := [.int .i64 7, .int .i64 t1108, .int .i64 t1109, .int .i64 0, .int .i64 0]) (ok := fun _ => True) (okp := fun _ => True) ?hr ?hp (fun _ hk => hk) trivial (Below.refl _ _) (Nat.le_refl _) (by simp) ?_; (case hd => rfl); (case hg => rfl); (case hr => first | (go_simp; done) | (go_simp; rfl)); (case hp => exact (Reps.c5 (show Kd.M k27 _ _ _ (⟨7, t1108, t1109, 0, 0⟩ : S27) [.int .i64 7, .int .i64 t1108, .int .i64 t1109, .int .i64 0, .int .i64 0] from (k27_mkM _ _ _ (⟨7, t1108, t1109, 0, 0⟩ : S27) )) (Reps.none _ _)))
        intro v1139 w63 ho64 hb hg_ hnew_
        clear hg_ hnew_
        (first | rw [← Ny1138.out] at ho64 | (simp only [Int.reduceToNat] at ho64; rw [← Ny1138.out] at ho64))
        have n_ := o2_ (Kd.Q_below (oQ HO_1119002) hb) (o2_ (Kd.V_elder' (oV HO_1133002) (Kd.R_base ho64) hb) (o2_ (Kd.R_lower (Kd.R_newB ho64 (oP BK1119)) (below_size (oB HB))) (o2_ (blk_below (oP BK1118) hb) (o2_ (blk_below (oP BK1119) hb) (o2_ (blk_below (oP BK1132) hb) (o1_ (below_step (oB HB) hb)))))))
        clear HO_1119002 HO_1133002 BK1118 BK1119 BK1132 HB
        obtain ⟨HO_1119002, HO_1133002, HO1140, BK1118, BK1119, BK1132, HB⟩ := n_
        clear hb ho64
        obtain ⟨Ao65, co65, eo65⟩ := Kd.R_slice HO1140.out
        (first | subst eo65 | (injection eo65 with f1_ f2_ f3_; have f4_ := f1_.symm; have f5_ := f3_.symm; clear f1_ f2_ f3_; subst f4_; subst f5_))
        refine hK.out _ _ ⟨(blk_cell BK1132.out 0).trans rfl, (blk_cell BK1132.out 1).trans rfl, (blk_cell BK1132.out 2).trans rfl, (blk_cell BK1118.out 0).trans rfl, (blk_cell BK1118.out 1).trans rfl, (blk_cell BK1118.out 2).trans rfl⟩ (fun hHeld => ?_)
        clear hK K
        refine norm_ (a' := ?_) ?_ ?_
        rotate_left
        ·show Act.put _ (some 79) _ = _
         simp only [Act.put, List.setIfInBounds_toArray, List.set_cons_zero, List.set_cons_succ, i64_w, i32_w]
         rfl
        refine one_ (i := 7) (N := some 80) #[true, true, true, true, true, true, true, true, true, false, false] rfl rfl (one_of HT_.out oK) oD (fun K hK => ?_)
        refine goes_ Try.func27 oK rfl #[.agg #[.int .i64 t1127, .int .i64 t1128, .slice Ao46 t1129.length co46], .slice Ao65 y1138.length co65] (by rfl) rfl rfl oA ?_
        with_reducible refine (laws_eaDo.calls k2 t1127 t1128 (fun k_ => ((k_ ≠ gb1118 ∧ (k_ ≠ gb1119 ∧ k_ ≠ gb1132)) ∧ some k_ ≠ (.slice Ao65 y1138.length co65 : Value).ownBlock)) _ _ t1129 _ _ y1138 t1141 t1142 t1143 _ ?side1 ?side2 ?side3 A57.out).mono ?_
        (case side1 => exact HO_1133002.out)
        (case side2 => repeat (first | exact (Kd.R_reads' HO1140.out).2.2 | (with_reducible refine Kd.C_alloc ?_ _) | (with_reducible refine Kd.C_drewN ?_ _) | (with_reducible refine Kd.C_drew ?_)))
        (case side3 => exact (Kd.R_reads' HO1140.out).2.1)
        rintro e w66 ⟨v1144, rfl, ho0, hb⟩
        refine ⟨_, rfl, ?_⟩
        have n_ := o2_ (Kd.Q_below (oQ HO_1119002) hb) (o2_ (Kd.V_lower (Kd.V_mono (ok' := fun k_ => some k_ ≠ (.slice Ao65 y1138.length co65 : Value).ownBlock ∧ k_ ≠ gb1118 ∧ k_ ≠ gb1119 ∧ k_ ≠ gb1132) ho0 (fun k_ hk_ => ⟨Or.elim hk_ (fun hs_ => hs_.2) (fun hn_ => (Kd.fresh' (Kd.R_lt (oR HO1140)) k_ hn_)), Or.elim hk_ (fun hs_ => hs_.1.1) (fun hn_ => (Kd.freshB (oP BK1118) k_ hn_)), Or.elim hk_ (fun hs_ => hs_.1.2.1) (fun hn_ => (Kd.freshB (oP BK1119) k_ hn_)), Or.elim hk_ (fun hs_ => hs_.1.2.2) (fun hn_ => (Kd.freshB (oP BK1132) k_ hn_))⟩)) (below_size (oB HB))) (o2_ (blk_below (oP BK1118) hb) (o2_ (blk_below (oP BK1132) hb) (o1_ (below_step (oB HB) hb)))))
        clear HO_1119002 BK1118 BK1132 HB
        obtain ⟨HO_1119002, HO1145, BK1118, BK1132, HB⟩ := n_
        (try clear hb)
        (try clear hb2)
        (try clear hk)
        (try clear hi)
        (try clear ho0)
        obtain ⟨Ao67, co67, eo67⟩ := Kd.V_slice HO1145.out
        (first | subst eo67 | (injection eo67 with f1_ f2_ f3_; have f4_ := f1_.symm; have f5_ := f3_.symm; clear f1_ f2_ f3_; subst f4_; subst f5_))
        refine hK.out _ _ ⟨(blk_cell BK1132.out 0).trans rfl, (blk_cell BK1132.out 1).trans rfl, (blk_cell BK1132.out 2).trans rfl, (blk_cell BK1118.out 0).trans rfl, (blk_cell BK1118.out 1).trans rfl, (blk_cell BK1118.out 2).trans rfl⟩ (fun hHeld => ?_)
        clear hK K
        refine norm_ (a' := ?_) ?_ ?_
        rotate_left
        ·show Act.put _ (some 80) _ = _
         simp only [Act.put, List.setIfInBounds_toArray, List.set_cons_zero, List.set_cons_succ, i64_w, i32_w]
         rfl
        refine one_ (i := 9) (N := some 82) #[true, true, true, true, true, true, true, true, true, true, false] rfl rfl (one_of HT_.out oK) oD (fun K hK => ?_)
        refine goes_ Try.func21 oK rfl #[.agg #[.int .i64 t1141, .int .i64 t1142, .slice Ao67 t1143.length co67], .agg #[.int .i64 t1108, .int .i64 t1109, .slice Ao10 t1110.length co10]] (by rfl) rfl rfl oA ?_
        with_reducible refine (laws_eaRas.calls k2 t1141 t1142 _ _ t1143 t1108 t1109 _ _ t1110 t1146 _ ?side1 ?side2 ?side3 ?side4 A58.out).mono ?_
        (case side1 => repeat (first | exact (Kd.V_reads' HO1145.out).2.2 | (with_reducible refine Kd.C_alloc ?_ _) | (with_reducible refine Kd.C_drewN ?_ _) | (with_reducible refine Kd.C_drew ?_)))
        (case side2 => exact (Kd.V_reads' HO1145.out).2.1)
        (case side3 => repeat (first | exact (Kd.Q_reads' HO_1119002.out).2.2 | (with_reducible refine Kd.C_alloc ?_ _) | (with_reducible refine Kd.C_drewN ?_ _) | (with_reducible refine Kd.C_drew ?_)))
        (case side4 => exact (Kd.Q_reads' HO_1119002.out).2.1)
        rintro e w68 ⟨rfl, hb⟩
        refine ⟨_, rfl, ?_⟩
        have n_ := o2_ (blk_below (oP BK1118) hb) (o2_ (blk_below (oP BK1132) hb) (o1_ (below_step (oB HB) hb)))
        clear BK1118 BK1132 HB
        obtain ⟨BK1118, BK1132, HB⟩ := n_
        (try clear hb)
        (try clear hb2)
        (try clear hk)
        (try clear hi)
        refine hK.out _ _ ⟨(blk_cell BK1132.out 0).trans rfl, (blk_cell BK1132.out 1).trans rfl, (blk_cell BK1132.out 2).trans rfl, (blk_cell BK1118.out 0).trans rfl, (blk_cell BK1118.out 1).trans rfl, (blk_cell BK1118.out 2).trans rfl⟩ (fun hHeld => ?_)
        clear hK K
        refine norm_ (a' := ?_) ?_ ?_
        rotate_left
        ·show Act.put _ (some 82) _ = _
         simp only [Act.put, List.setIfInBounds_toArray, List.set_cons_zero, List.set_cons_succ, i64_w, i32_w]
         rfl
        refine pure_ (i := 10) (N := some 2) (v := ?_) (a' := ?_) #[true, true, true, true, true, true, true, true, true, true, true] rfl rfl (any_of HT_.out oK) (fun _ _ _ h => h) (Or.inl ⟨by rfl, ?_⟩) ?_ ?_
        rotate_left
        ·intro w'
         go_simp
         with_reducible rfl
        rotate_left
        ·simp only [Act.put, List.setIfInBounds_toArray, List.set_cons_zero, List.set_cons_succ, i64_w, i32_w]
         rfl
        refine done_ (done_of HT_.out oK) ?_
        try go_wp2
        go_ret
        exact ⟨by first | rfl | (simp [errW_none, errW_some] <;> rfl) | (simp [*, errW_none, errW_some] <;> rfl), by repeat (first | (with_reducible first | exact HB.out | apply below_alloc | apply pw_below_drewN | apply below_drew1 | refine below_set ?_ GE1118.out | refine below_set ?_ GE1119.out | refine below_set ?_ GE1132.out) | exact HB.out)⟩

/-- THE ONE PURE STATEMENT of laws_FnOpSizeUp: yours. -/
def laws_FnOpSizeUp.Pure : Prop := ∀ (l0 : List Int), l0.length ≤ maxLen → l0.length * 1 ≤ 140737488351232 → (∀ x ∈ l0, (Lit.int .u8 x).wf = true) → ∃ k, laws_FnOpSizeUp.f k l0 = some true
theorem laws_FnOpSizeUp.walk (P : laws_FnOpSizeUp.Pure) (a0 : Option Addr) (len0 cap0 : Nat) (z0 : List Int) (w : World) (w0 : (a0 = none ∧ len0 = 0 ∧ cap0 = 0 ∧ z0 = []) ∨ ∃ x, a0 = some x ∧ len0 ≤ cap0 ∧ cap0 ≤ maxLen ∧ z0.length = cap0 ∧ (∀ i, i < z0.length → w.cell? (x.add i) = some (.int .u8 (z0.getD i 0))) ∧ ∀ n ∈ z0, (Lit.int .u8 n).wf = true) (y0 : len0 * 1 ≤ 140737488351232) :
  Calls Try.prog 14 #[.slice a0 len0 cap0] w fun e w' => e = .returned (.bool true) ∧ Below w.heap.size w w' := by
 obtain ⟨l0, rfl, hr0, hm0, hw0, hc0⟩ := ReadsInt.ofRowC w0
 obtain ⟨k, h⟩ := P l0 hm0 y0 hw0
 refine (laws_FnOpSizeUp.calls k _ _ l0 true w (Kd.C_of_reads (d := (0 : Int)) (h1 := fun _ => rfl) hr0) hc0 h).mono ?_
 rintro e w' ⟨rfl, hd⟩
 exact ⟨rfl, hd⟩

end Go.Proofs.Ythnmeogafklhnaa.X
