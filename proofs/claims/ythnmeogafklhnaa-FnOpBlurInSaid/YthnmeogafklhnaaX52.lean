/- Functions of the given program as plain Lean functions, and for each the proof that the machine's call comes to what its function says. No condition but what each theorem states. Written by a program of this session. -/
import Derived.Test.YthnmeogafklhnaaX0
import Derived.Test.YthnmeogafklhnaaX2
import Derived.Test.YthnmeogafklhnaaX9
import Derived.Test.YthnmeogafklhnaaX15
import Derived.Test.YthnmeogafklhnaaX32
import Derived.Test.YthnmeogafklhnaaX45
import Derived.Test.YthnmeogafklhnaaX48
import Derived.Test.YthnmeogafklhnaaX51
namespace Go.Proofs.Ythnmeogafklhnaa.X
open Go.RowKit Go.Proofs.YthnmeogafklhnaaW.PrintWords Go.Proofs.YthnmeogafklhnaaW.PrintLast Go.Proofs.YthnmeogafklhnaaW.PrintMore Go.Proofs.Ythnmeogafklhnaa.Hyb
attribute [local go_sem] max2_int min2_int max_two min_two max_three min_three max_four min_four   -- for this text's walks alone
set_option linter.unusedVariables false
set_option linter.unusedSimpArgs false

attribute [local go_sem high] eqA38
/-! ### laws_FnOpBlurIn: function 6 -/
mutual
def laws_FnOpBlurIn.l0 : Nat → Int → Int → Int → List (S38) → Int → Int → Int → Int → Int → Int → Int → List (S38) → Option (Bool)
 | 0, _, _, _, _, _, _, _, _, _, _, _, _ => none
 | k + 1, x7, x625000, x625001, x625002, x630000, x630001, x630002, x630003, x630004, x639000, x639001, x639002 => if x7 < x625001 then (laws_FnOpBlurIn.l1 k x7 0 x625000 x625001 x625002 x630000 x630001 x630002 x630003 x630004 x639000 x639001 x639002) else ((impl_RasOk.f k x639000 x639001 x639002).bind fun t639 => (some t639))
def laws_FnOpBlurIn.l1 : Nat → Int → Int → Int → Int → List (S38) → Int → Int → Int → Int → Int → Int → Int → List (S38) → Option (Bool)
 | 0, _, _, _, _, _, _, _, _, _, _, _, _, _ => none
 | k + 1, x7, x8, x625000, x625001, x625002, x630000, x630001, x630002, x630003, x630004, x639000, x639001, x639002 => if x8 < x625000 then ((laws_eaDo.f k x625000 x625001 x625002 (([(⟨1, mx 0 (wrap64 (x8 - 1)), mx 0 (wrap64 (x7 - 1)), wrap64 ((wrap64 ((mn (wrap64 (x625000 - 1)) (wrap64 (x8 + 1))) - (mx 0 (wrap64 (x8 - 1))))) + 1), wrap64 ((wrap64 ((mn (wrap64 (x625001 - 1)) (wrap64 (x7 + 1))) - (mx 0 (wrap64 (x7 - 1))))) + 1)⟩ : S27), (⟨x630000, x630001, x630002, x630003, x630004⟩ : S27)] : List (S27)))).bind fun bt643 => ((impl_RasAt.f k bt643.1 bt643.2.1 bt643.2.2 (wrap64 (x8 - (mx 0 (wrap64 (x8 - 1))))) (wrap64 (x7 - (mx 0 (wrap64 (x7 - 1)))))).bind fun bt649 => ((impl_RasAt.f k x639000 x639001 x639002 x8 x7).bind fun bt653 => (if (!(bt649.1 == bt653.1) || (!(bt649.2.1 == bt653.2.1) || (!(bt649.2.2.1 == bt653.2.2.1) || (!(bt649.2.2.2 == bt653.2.2.2))))) = true then (none) else (laws_FnOpBlurIn.l1 k x7 (wrap64 (x8 + 1)) x625000 x625001 x625002 x630000 x630001 x630002 x630003 x630004 x639000 x639001 x639002))))) else (laws_FnOpBlurIn.l0 k (wrap64 (x7 + 1)) x625000 x625001 x625002 x630000 x630001 x630002 x630003 x630004 x639000 x639001 x639002)
end
def laws_FnOpBlurIn.f (k : Nat) (l0 : List Int) : Option (Bool) := if (l0.length : Int) > 1048576 then (some true) else ((spec_DrawOpDo.f k l0).bind fun bt614 => ((spec_RasOk.f k bt614.1 bt614.2.1 bt614.2.2.1).bind fun t626 => (if t626 = true then ((laws_eaDo.f k bt614.1 bt614.2.1 bt614.2.2.1 (([(⟨6, 0, 0, 0, 0⟩ : S27)] : List (S27)))).bind fun bt633 => (laws_FnOpBlurIn.l0 k 0 bt614.1 bt614.2.1 bt614.2.2.1 6 0 0 0 0 bt633.1 bt633.2.1 bt633.2.2)) else ((impl_RasOk.f k bt614.1 bt614.2.1 bt614.2.2.1).bind fun t627 => (if t627 = true then (none) else ((laws_eaOk.f).bind fun t628 => (some t628)))))))
theorem laws_FnOpBlurIn.mono_l : ∀ k, (∀ y0 y1 y2 y3 y4 y5 y6 y7 y8 y9 y10 y11, LeO (laws_FnOpBlurIn.l0 k y0 y1 y2 y3 y4 y5 y6 y7 y8 y9 y10 y11) (laws_FnOpBlurIn.l0 (k + 1) y0 y1 y2 y3 y4 y5 y6 y7 y8 y9 y10 y11)) ∧ (∀ y0 y1 y2 y3 y4 y5 y6 y7 y8 y9 y10 y11 y12, LeO (laws_FnOpBlurIn.l1 k y0 y1 y2 y3 y4 y5 y6 y7 y8 y9 y10 y11 y12) (laws_FnOpBlurIn.l1 (k + 1) y0 y1 y2 y3 y4 y5 y6 y7 y8 y9 y10 y11 y12))
 | 0 => ⟨(fun _ _ _ _ _ _ _ _ _ _ _ _ r h => nomatch (show none = some r from h)), (fun _ _ _ _ _ _ _ _ _ _ _ _ _ r h => nomatch (show none = some r from h))⟩
 | k + 1 => by
  obtain ⟨ih0, ih1⟩ := laws_FnOpBlurIn.mono_l k
  refine ⟨?_, ?_⟩
  ·intro y0 y1 y2 y3 y4 y5 y6 y7 y8 y9 y10 y11
   unfold laws_FnOpBlurIn.l0
   repeat' first
   | (with_reducible exact ih0 _ _ _ _ _ _ _ _ _ _ _ _)
   | (with_reducible exact ih1 _ _ _ _ _ _ _ _ _ _ _ _ _)
   | (with_reducible exact impl_RasAt.mono _ _ _ _ _ _)
   | (with_reducible exact impl_RasOk.mono _ _ _ _)
   | (with_reducible exact laws_eaDo.mono _ _ _ _ _)
   | (with_reducible exact spec_DrawOpDo.mono _ _)
   | (with_reducible exact spec_RasOk.mono _ _ _ _)
   | (with_reducible exact LeO.refl _)
   | (with_reducible exact LeO.none _)
   | (with_reducible refine LeO.ite ?_ ?_)
   | (with_reducible refine LeO.bind ?_ (fun _ => ?_))
   | exact ih0 _ _ _ _ _ _ _ _ _ _ _ _
   | exact ih1 _ _ _ _ _ _ _ _ _ _ _ _ _
   | exact impl_RasAt.mono _ _ _ _ _ _
   | exact impl_RasOk.mono _ _ _ _
   | exact laws_eaDo.mono _ _ _ _ _
   | exact spec_DrawOpDo.mono _ _
   | exact spec_RasOk.mono _ _ _ _
   | exact LeO.none _
   | refine LeO.ite ?_ ?_
   | refine LeO.bind ?_ (fun _ => ?_)
  ·intro y0 y1 y2 y3 y4 y5 y6 y7 y8 y9 y10 y11 y12
   unfold laws_FnOpBlurIn.l1
   repeat' first
   | (with_reducible exact ih0 _ _ _ _ _ _ _ _ _ _ _ _)
   | (with_reducible exact ih1 _ _ _ _ _ _ _ _ _ _ _ _ _)
   | (with_reducible exact impl_RasAt.mono _ _ _ _ _ _)
   | (with_reducible exact impl_RasOk.mono _ _ _ _)
   | (with_reducible exact laws_eaDo.mono _ _ _ _ _)
   | (with_reducible exact spec_DrawOpDo.mono _ _)
   | (with_reducible exact spec_RasOk.mono _ _ _ _)
   | (with_reducible exact LeO.refl _)
   | (with_reducible exact LeO.none _)
   | (with_reducible refine LeO.ite ?_ ?_)
   | (with_reducible refine LeO.bind ?_ (fun _ => ?_))
   | exact ih0 _ _ _ _ _ _ _ _ _ _ _ _
   | exact ih1 _ _ _ _ _ _ _ _ _ _ _ _ _
   | exact impl_RasAt.mono _ _ _ _ _ _
   | exact impl_RasOk.mono _ _ _ _
   | exact laws_eaDo.mono _ _ _ _ _
   | exact spec_DrawOpDo.mono _ _
   | exact spec_RasOk.mono _ _ _ _
   | exact LeO.none _
   | refine LeO.ite ?_ ?_
   | refine LeO.bind ?_ (fun _ => ?_)
theorem laws_FnOpBlurIn.mono : ∀ a0 k, LeO (laws_FnOpBlurIn.f k a0) (laws_FnOpBlurIn.f (k + 1) a0) := by
 intro a0 k
 obtain ⟨ih0, ih1⟩ := laws_FnOpBlurIn.mono_l k
 unfold laws_FnOpBlurIn.f
 repeat' first
   | (with_reducible exact ih0 _ _ _ _ _ _ _ _ _ _ _ _)
   | (with_reducible exact ih1 _ _ _ _ _ _ _ _ _ _ _ _ _)
   | (with_reducible exact impl_RasAt.mono _ _ _ _ _ _)
   | (with_reducible exact impl_RasOk.mono _ _ _ _)
   | (with_reducible exact laws_eaDo.mono _ _ _ _ _)
   | (with_reducible exact spec_DrawOpDo.mono _ _)
   | (with_reducible exact spec_RasOk.mono _ _ _ _)
   | (with_reducible exact LeO.refl _)
   | (with_reducible exact LeO.none _)
   | (with_reducible refine LeO.ite ?_ ?_)
   | (with_reducible refine LeO.bind ?_ (fun _ => ?_))
   | exact ih0 _ _ _ _ _ _ _ _ _ _ _ _
   | exact ih1 _ _ _ _ _ _ _ _ _ _ _ _ _
   | exact impl_RasAt.mono _ _ _ _ _ _
   | exact impl_RasOk.mono _ _ _ _
   | exact laws_eaDo.mono _ _ _ _ _
   | exact spec_DrawOpDo.mono _ _
   | exact spec_RasOk.mono _ _ _ _
   | exact LeO.none _
   | refine LeO.ite ?_ ?_
   | refine LeO.bind ?_ (fun _ => ?_)
def laws_FnOpBlurIn.T19 : Bool × List (List Nat × List Nat) := (true, [([], []), ([], []), ([], []), ([1, 2], [1, 2]), ([], []), ([], []), ([4, 5], [4, 5]), ([0, 3, 6], [0, 3, 6]), ([], []), ([], []), ([], []), ([8, 9, 10, 7], [8, 9, 10]), ([7, 11], [7, 11])])
def laws_FnOpBlurIn.B19 : List Nat := [0, 0, 0, 6, 0, 0, 48, 127, 0, 0, 0, 2047, 4095]
theorem laws_FnOpBlurIn.tab19 : rtab .any (opsOf Try.f6 19) = laws_FnOpBlurIn.T19 := by kernel_rfl
theorem laws_FnOpBlurIn.bits19 : waitsOk laws_FnOpBlurIn.T19.2 laws_FnOpBlurIn.B19 = true := by kernel_rfl
set_option maxHeartbeats 8000000 in
set_option maxRecDepth 100000 in
theorem laws_FnOpBlurIn.calls (k : Nat) (A0 : Option Addr) (c0 : Nat) (l0 : List Int) (r : Bool) (w : World) (hr0 : Kd.C (Kd.int .u8) w A0 l0.length l0) (hc0 : l0.length ≤ c0) (h : laws_FnOpBlurIn.f k l0 = some r) :
  Calls Try.prog 6 #[.slice A0 l0.length c0] w fun e w' => e = .returned (.bool r) ∧ Below w.heap.size w w' := by
 have hu25 := Try.underlying25
 have hu27 := Try.underlying27
 have HR0 := Aside0.mk hr0
 have HC0 := Aside0.mk hc0
 clear hr0 hc0
 have HB := Aside0.mk (Below.refl w.heap.size w)
 have H : (if (l0.length : Int) > 1048576 then (some true) else ((spec_DrawOpDo.f k l0).bind fun bt614 => ((spec_RasOk.f k bt614.1 bt614.2.1 bt614.2.2.1).bind fun t626 => (if t626 = true then ((laws_eaDo.f k bt614.1 bt614.2.1 bt614.2.2.1 (([(⟨6, 0, 0, 0, 0⟩ : S27)] : List (S27)))).bind fun bt633 => (laws_FnOpBlurIn.l0 k 0 bt614.1 bt614.2.1 bt614.2.2.1 6 0 0 0 0 bt633.1 bt633.2.1 bt633.2.2)) else ((impl_RasOk.f k bt614.1 bt614.2.1 bt614.2.2.1).bind fun t627 => (if t627 = true then (none) else ((laws_eaOk.f).bind fun t628 => (some t628)))))))) = some r := h
 clear h
 by_cases c2 : (l0.length : Int) > 1048576
 ·rw [if_pos c2] at H
  have c2b0 : decide (1048576 < (l0.length : Int)) = true := decide_eq_true c2
  have c2b1 : decide (1048576 < l0.length) = true := decide_eq_true (by omega)
  clear c2
  obtain rfl := Option.some.inj H
  go_enter Try.func6, Try.ntmps6
  go_wp2
  go_ret
  exact ⟨by first | rfl | (simp [errW_none, errW_some] <;> rfl) | (simp [*, errW_none, errW_some] <;> rfl), oB HB⟩
 ·rw [if_neg c2] at H
  have c2b0 : decide (1048576 < (l0.length : Int)) = false := decide_eq_false c2
  have c2b1 : decide (1048576 < l0.length) = false := decide_eq_false (by omega)
  clear c2
  replace H := Option.bind_eq_some_iff.mp H
  obtain ⟨⟨t614, t615, t616, t619, t620, t621, t622, t623⟩, A30, H⟩ := H
  (try dsimp only at H)
  have A3 := Aside0.mk A30
  clear A30
  replace H := Option.bind_eq_some_iff.mp H
  obtain ⟨t626, A40, H⟩ := H
  (try dsimp only at H)
  have A4 := Aside0.mk A40
  clear A40
  by_cases c5 : t626 = true
  ·subst c5
   rw [if_pos rfl] at H
   obtain ⟨y630, hy630⟩ : ∃ y_ : List (S27), y_ = (([(⟨6, 0, 0, 0, 0⟩ : S27)] : List (S27))) := ⟨_, rfl⟩
   replace H : ((laws_eaDo.f k t614 t615 t616 y630).bind fun bt633 => (laws_FnOpBlurIn.l0 k 0 t614 t615 t616 6 0 0 0 0 bt633.1 bt633.2.1 bt633.2.2)) = some r := by first | (rw [hy630]; with_reducible exact H) | (have H2_ := (Option.bind_some _ _).symm.trans H; rw [hy630]; with_reducible exact H2_) | (have H2_ := (Option.bind_some _ _).symm.trans H; with_reducible exact H2_) | with_reducible exact H | (rw [hy630]; exact H) | exact H
   have Ny630 := Aside0.mk hy630
   clear hy630
   replace H := Option.bind_eq_some_iff.mp H
   obtain ⟨⟨t633, t634, t635⟩, A60, H⟩ := H
   (try dsimp only at H)
   have A6 := Aside0.mk A60
   clear A60
   have H' := Aside0.mk H
   clear H
   go_enter Try.func6, Try.ntmps6
   go_wp2_with (first | ((with_reducible refine gate_callee (f := 18) rfl ?_); refine goesL_ (some 19) rfl rfl Try.func18 oK rfl #[.slice A0 l0.length c0] rfl oA ?_; (with_reducible refine (spec_DrawOpDo.calls k _ _ l0 t614 t615 t616 t619 t620 t621 t622 t623 _ ?side1 ?side2 A3.out).mono ?_); (case side1 => repeat (first | exact HR0.out | (with_reducible refine Kd.C_alloc ?_ _) | (with_reducible refine Kd.C_drewN ?_ _) | (with_reducible refine Kd.C_drew ?_))); (case side2 => exact HC0.out); rintro e w7 ⟨v617, rfl, ho0, hb⟩; refine ⟨_, rfl, ?_⟩; have n_ := o2_ (Kd.Q_lower ho0 (below_size (oB HB))) (o1_ (below_step (oB HB) hb)); clear HB; obtain ⟨HO618, HB⟩ := n_; (try clear hb); (try clear hb2); (try clear hk); (try clear hi); (try clear ho0)) | ((with_reducible refine gate_dst (N := 3) rfl ?_); refine box_event ?hg (N := 3) ?hd (cs := #[.int .i64 0, .int .i64 0, .slice none 0 0]) (t := 25) ?hr ?_; (case hd => rfl); (case hg => rfl); (case hr => first | (go_simp; done) | (go_simp; rfl)); intro gb624 hg w8 hbox hb; have n_ := o2_ (Kd.Q_below (oQ HO618) hb) (o2_ (below_step (oB HB) hb) (o2_ (hbox) (o2_ ((oG hg (below_size (oB HB)) : w.heap.size ≤ gb624)) (o1_ ((oG hg (below_size (oB HB)) : w.heap.size ≤ gb624)))))); clear HO618 HB; obtain ⟨HO618, HB, BK624, GW624, GE624⟩ := n_; clear hb hbox hg) | ((with_reducible refine gate_dst (N := 4) rfl ?_); refine box_event ?hg (N := 4) ?hd (cs := #[.int .i64 0, .int .i64 0, .int .i64 0, .int .i64 0, .int .i64 0]) (t := 27) ?hr ?_; (case hd => rfl); (case hg => rfl); (case hr => first | (go_simp; done) | (go_simp; rfl)); intro gb625 hg w9 hbox hb; have n_ := o2_ (Kd.Q_below (oQ HO618) hb) (o2_ (blk_below (oP BK624) hb) (o2_ (below_step (oB HB) hb) (o2_ (hbox) (o2_ ((oG hg (below_size (oB HB)) : w.heap.size ≤ gb625)) (o2_ ((oG hg (below_size (oB HB)) : w.heap.size ≤ gb625)) (o2_ ((oL hg (blk_lt (oP BK624)))) (o1_ ((oN hg (blk_lt (oP BK624))))))))))); clear HO618 BK624 HB; obtain ⟨HO618, BK624, HB, BK625, GW625, GE625, NB624_625, NB625_624⟩ := n_; clear hb hbox hg; have hnb10 := NB624_625.out; have hnc10 := NB625_624.out; have hcz11_0 : w9.cell? ⟨gb624, 0, none⟩ = some (.int .i64 0) := (blk_cell BK624.out 0).trans rfl; have hcz11_1 : w9.cell? ⟨gb624, 1, none⟩ = some (.int .i64 0) := (blk_cell BK624.out 1).trans rfl; have hcz11_2 : w9.cell? ⟨gb624, 2, none⟩ = some (.slice none 0 0) := (blk_cell BK624.out 2).trans rfl; have hfz11_0 := blk_frozen BK624.out 0; have hfz11_1 := blk_frozen BK624.out 1; have hfz11_2 := blk_frozen BK624.out 2; obtain ⟨Ao12, co12, eo12, _⟩ := Kd.Q_slice HO618.out; subst eo12; have hcz13_0 : w9.cell? ⟨gb625, 0, none⟩ = some (.int .i64 0) := (blk_cell BK625.out 0).trans rfl; have hcz13_1 : w9.cell? ⟨gb625, 1, none⟩ = some (.int .i64 0) := (blk_cell BK625.out 1).trans rfl; have hcz13_2 : w9.cell? ⟨gb625, 2, none⟩ = some (.int .i64 0) := (blk_cell BK625.out 2).trans rfl; have hcz13_3 : w9.cell? ⟨gb625, 3, none⟩ = some (.int .i64 0) := (blk_cell BK625.out 3).trans rfl; have hcz13_4 : w9.cell? ⟨gb625, 4, none⟩ = some (.int .i64 0) := (blk_cell BK625.out 4).trans rfl; have hfz13_0 := blk_frozen BK625.out 0; have hfz13_1 := blk_frozen BK625.out 1; have hfz13_2 := blk_frozen BK625.out 2; have hfz13_3 := blk_frozen BK625.out 3; have hfz13_4 := blk_frozen BK625.out 4) | ((with_reducible refine gate_callee (f := 24) rfl ?_); refine goesL_ (some 23) rfl rfl Try.func24 oK rfl #[.agg #[.int .i64 t614, .int .i64 t615, .slice Ao12 t616.length co12]] rfl oA ?_; (with_reducible refine (spec_RasOk.calls k t614 t615 _ _ t616 true _ ?side1 ?side2 A4.out).mono ?_); (case side1 => refine (Kd.Q_reads' (e := 38) (base := w.heap.size) (ok := fun k_ => True) (n := t616.length) (c := co12) ?_).2.2; exact (by (with_reducible repeat (first | apply Kd.Q_alloc | apply Kd.Q_drewN | apply Kd.Q_drew)); exact (Kd.Q_mono (Kd.Q_mono (Kd.Q_far (p := ⟨gb625, 4, none⟩) (Kd.Q_far (p := ⟨gb625, 3, none⟩) (Kd.Q_far (p := ⟨gb625, 2, none⟩) (Kd.Q_far (p := ⟨gb625, 1, none⟩) (Kd.Q_far (p := ⟨gb625, 0, none⟩) (Kd.Q_far (p := ⟨gb624, 2, none⟩) (Kd.Q_far (p := ⟨gb624, 1, none⟩) (Kd.Q_far (p := ⟨gb624, 0, none⟩) (Kd.Q_types (Kd.Q_types HO618.out BK624.out oD) BK625.out oD) (fun _ hk => hk.1.2) (.int .i64 t614)) (fun _ hk => hk.1.2) (.int .i64 t615)) (fun _ hk => hk.1.2) (.slice Ao12 t616.length co12)) (fun _ hk => hk.2) (.int .i64 t619)) (fun _ hk => hk.2) (.int .i64 t620)) (fun _ hk => hk.2) (.int .i64 t621)) (fun _ hk => hk.2) (.int .i64 t622)) (fun _ hk => hk.2) (.int .i64 t623)) (fun _ h_ => h_.1)) (fun _ h_ => h_.1)))); (case side2 => exact (Kd.Q_reads' HO618.out).2.1); rintro e w14 ⟨rfl, hb⟩; refine ⟨_, rfl, ?_⟩; have n_ := o2_ (Kd.Q_below (by (with_reducible repeat (first | apply Kd.Q_alloc | apply Kd.Q_drewN | apply Kd.Q_drew)); exact (Kd.Q_mono (Kd.Q_mono (Kd.Q_far (p := ⟨gb625, 4, none⟩) (Kd.Q_far (p := ⟨gb625, 3, none⟩) (Kd.Q_far (p := ⟨gb625, 2, none⟩) (Kd.Q_far (p := ⟨gb625, 1, none⟩) (Kd.Q_far (p := ⟨gb625, 0, none⟩) (Kd.Q_far (p := ⟨gb624, 2, none⟩) (Kd.Q_far (p := ⟨gb624, 1, none⟩) (Kd.Q_far (p := ⟨gb624, 0, none⟩) (Kd.Q_types (Kd.Q_types HO618.out BK624.out oD) BK625.out oD) (fun _ hk => hk.1.2) (.int .i64 t614)) (fun _ hk => hk.1.2) (.int .i64 t615)) (fun _ hk => hk.1.2) (.slice Ao12 t616.length co12)) (fun _ hk => hk.2) (.int .i64 t619)) (fun _ hk => hk.2) (.int .i64 t620)) (fun _ hk => hk.2) (.int .i64 t621)) (fun _ hk => hk.2) (.int .i64 t622)) (fun _ hk => hk.2) (.int .i64 t623)) (fun _ h_ => h_.1)) (fun _ h_ => h_.1))) hb) (o2_ (blk_below (g := gb624) (o := .cells #[.int .i64 t614, .int .i64 t615, .slice Ao12 t616.length co12] 25 (0, 0)) (by (with_reducible repeat (first | refine blk_drewN ?_ _ | refine blk_drew ?_ | refine blk_alloc ?_ _)); refine blk_far ?_ NB624_625.out _; (with_reducible repeat (first | refine blk_drewN ?_ _ | refine blk_drew ?_ | refine blk_alloc ?_ _)); refine blk_far ?_ NB624_625.out _; (with_reducible repeat (first | refine blk_drewN ?_ _ | refine blk_drew ?_ | refine blk_alloc ?_ _)); refine blk_far ?_ NB624_625.out _; (with_reducible repeat (first | refine blk_drewN ?_ _ | refine blk_drew ?_ | refine blk_alloc ?_ _)); refine blk_far ?_ NB624_625.out _; (with_reducible repeat (first | refine blk_drewN ?_ _ | refine blk_drew ?_ | refine blk_alloc ?_ _)); refine blk_far ?_ NB624_625.out _; (with_reducible repeat (first | refine blk_drewN ?_ _ | refine blk_drew ?_ | refine blk_alloc ?_ _)); refine blk_put (cs := #[.int .i64 t614, .int .i64 t615, .slice none 0 0]) ?_ 2 _ rfl; (with_reducible repeat (first | refine blk_drewN ?_ _ | refine blk_drew ?_ | refine blk_alloc ?_ _)); refine blk_put (cs := #[.int .i64 t614, .int .i64 0, .slice none 0 0]) ?_ 1 _ rfl; (with_reducible repeat (first | refine blk_drewN ?_ _ | refine blk_drew ?_ | refine blk_alloc ?_ _)); refine blk_put (cs := #[.int .i64 0, .int .i64 0, .slice none 0 0]) ?_ 0 _ rfl; (with_reducible repeat (first | refine blk_drewN ?_ _ | refine blk_drew ?_ | refine blk_alloc ?_ _)); exact BK624.out) hb) (o2_ (blk_below (g := gb625) (o := .cells #[.int .i64 t619, .int .i64 t620, .int .i64 t621, .int .i64 t622, .int .i64 t623] 27 (0, 0)) (by (with_reducible repeat (first | refine blk_drewN ?_ _ | refine blk_drew ?_ | refine blk_alloc ?_ _)); refine blk_put (cs := #[.int .i64 t619, .int .i64 t620, .int .i64 t621, .int .i64 t622, .int .i64 0]) ?_ 4 _ rfl; (with_reducible repeat (first | refine blk_drewN ?_ _ | refine blk_drew ?_ | refine blk_alloc ?_ _)); refine blk_put (cs := #[.int .i64 t619, .int .i64 t620, .int .i64 t621, .int .i64 0, .int .i64 0]) ?_ 3 _ rfl; (with_reducible repeat (first | refine blk_drewN ?_ _ | refine blk_drew ?_ | refine blk_alloc ?_ _)); refine blk_put (cs := #[.int .i64 t619, .int .i64 t620, .int .i64 0, .int .i64 0, .int .i64 0]) ?_ 2 _ rfl; (with_reducible repeat (first | refine blk_drewN ?_ _ | refine blk_drew ?_ | refine blk_alloc ?_ _)); refine blk_put (cs := #[.int .i64 t619, .int .i64 0, .int .i64 0, .int .i64 0, .int .i64 0]) ?_ 1 _ rfl; (with_reducible repeat (first | refine blk_drewN ?_ _ | refine blk_drew ?_ | refine blk_alloc ?_ _)); refine blk_put (cs := #[.int .i64 0, .int .i64 0, .int .i64 0, .int .i64 0, .int .i64 0]) ?_ 0 _ rfl; (with_reducible repeat (first | refine blk_drewN ?_ _ | refine blk_drew ?_ | refine blk_alloc ?_ _)); refine blk_far ?_ NB625_624.out _; (with_reducible repeat (first | refine blk_drewN ?_ _ | refine blk_drew ?_ | refine blk_alloc ?_ _)); refine blk_far ?_ NB625_624.out _; (with_reducible repeat (first | refine blk_drewN ?_ _ | refine blk_drew ?_ | refine blk_alloc ?_ _)); refine blk_far ?_ NB625_624.out _; (with_reducible repeat (first | refine blk_drewN ?_ _ | refine blk_drew ?_ | refine blk_alloc ?_ _)); exact BK625.out) hb) (o1_ (below_step (oB HB) hb)))); clear HO618 BK624 BK625 HB; obtain ⟨HO618, BK624, BK625, HB⟩ := n_; (try clear hb); (try clear hb2); (try clear hk); (try clear hi)) | ((with_reducible refine gate_dst (N := 5) rfl ?_); refine box_event ?hg (N := 5) ?hd (cs := #[.int .i64 0, .int .i64 0, .int .i64 0, .int .i64 0, .int .i64 0]) (t := 27) ?hr ?_; (case hd => rfl); (case hg => rfl); (case hr => first | (go_simp; done) | (go_simp; rfl)); intro gb629 hg w15 hbox hb; have n_ := o2_ (Kd.Q_below (oQ HO618) hb) (o2_ (blk_below (oP BK624) hb) (o2_ (blk_below (oP BK625) hb) (o2_ (below_step (oB HB) hb) (o2_ (hbox) (o2_ ((oG hg (below_size (oB HB)) : w.heap.size ≤ gb629)) (o2_ ((oG hg (below_size (oB HB)) : w.heap.size ≤ gb629)) (o2_ ((oL hg (blk_lt (oP BK624)))) (o2_ ((oN hg (blk_lt (oP BK624)))) (o2_ ((oL hg (blk_lt (oP BK625)))) (o1_ ((oN hg (blk_lt (oP BK625)))))))))))))); clear HO618 BK624 BK625 HB; obtain ⟨HO618, BK624, BK625, HB, BK629, GW629, GE629, NB624_629, NB629_624, NB625_629, NB629_625⟩ := n_; clear hb hbox hg; have hnb16 := NB629_624.out; have hnc16 := NB624_629.out; have hnb17 := NB629_625.out; have hnc17 := NB625_629.out; have hcz18_0 : w15.cell? ⟨gb629, 0, none⟩ = some (.int .i64 0) := (blk_cell BK629.out 0).trans rfl; have hcz18_1 : w15.cell? ⟨gb629, 1, none⟩ = some (.int .i64 0) := (blk_cell BK629.out 1).trans rfl; have hcz18_2 : w15.cell? ⟨gb629, 2, none⟩ = some (.int .i64 0) := (blk_cell BK629.out 2).trans rfl; have hcz18_3 : w15.cell? ⟨gb629, 3, none⟩ = some (.int .i64 0) := (blk_cell BK629.out 3).trans rfl; have hcz18_4 : w15.cell? ⟨gb629, 4, none⟩ = some (.int .i64 0) := (blk_cell BK629.out 4).trans rfl; have hfz18_0 := blk_frozen BK629.out 0; have hfz18_1 := blk_frozen BK629.out 1; have hfz18_2 := blk_frozen BK629.out 2; have hfz18_3 := blk_frozen BK629.out 3; have hfz18_4 := blk_frozen BK629.out 4; have hcz19_0 : w15.cell? ⟨gb624, 0, none⟩ = some (.int .i64 t614) := (blk_cell BK624.out 0).trans rfl; have hcz19_1 : w15.cell? ⟨gb624, 1, none⟩ = some (.int .i64 t615) := (blk_cell BK624.out 1).trans rfl; have hcz19_2 : w15.cell? ⟨gb624, 2, none⟩ = some (.slice Ao12 t616.length co12) := (blk_cell BK624.out 2).trans rfl; have hfz19_0 := blk_frozen BK624.out 0; have hfz19_1 := blk_frozen BK624.out 1; have hfz19_2 := blk_frozen BK624.out 2) | ((with_reducible refine gate_dst (N := 34) rfl ?_); refine Kd.R_lit k27 _ 27 ?hg (N := 34) ?hd (xs := ([(⟨6, 0, 0, 0, 0⟩ : S27)] : List (S27))) (inner := [.int .i64 6, .int .i64 0, .int .i64 0, .int .i64 0, .int .i64 0]) (ok := fun _ => True) (okp := fun _ => True) ?hr ?hp (fun _ hk => hk) trivial (Below.refl _ _) (Nat.le_refl _) (by simp) ?_; (case hd => rfl); (case hg => rfl); (case hr => first | (go_simp; done) | (go_simp; rfl)); (case hp => exact (Reps.c5 (show Kd.M k27 _ _ _ (⟨6, 0, 0, 0, 0⟩ : S27) [.int .i64 6, .int .i64 0, .int .i64 0, .int .i64 0, .int .i64 0] from (k27_mkM _ _ _ (⟨6, 0, 0, 0, 0⟩ : S27) )) (Reps.none _ _))); intro v631 w20 ho21 hb hg_ hnew_; clear hg_ hnew_; (first | rw [← Ny630.out] at ho21 | (simp only [Int.reduceToNat] at ho21; rw [← Ny630.out] at ho21)); have n_ := o2_ (Kd.Q_below (by (with_reducible repeat (first | apply Kd.Q_alloc | apply Kd.Q_drewN | apply Kd.Q_drew)); exact (Kd.Q_mono (Kd.Q_far (p := ⟨gb629, 4, none⟩) (Kd.Q_far (p := ⟨gb629, 3, none⟩) (Kd.Q_far (p := ⟨gb629, 2, none⟩) (Kd.Q_far (p := ⟨gb629, 1, none⟩) (Kd.Q_far (p := ⟨gb629, 0, none⟩) (Kd.Q_types HO618.out BK629.out oD) (fun _ hk => hk.2) (.int .i64 6)) (fun _ hk => hk.2) (.int .i64 0)) (fun _ hk => hk.2) (.int .i64 0)) (fun _ hk => hk.2) (.int .i64 0)) (fun _ hk => hk.2) (.int .i64 0)) (fun _ h_ => h_.1))) hb) (o2_ (Kd.R_lower (Kd.R_newB (Kd.R_newB ho21 (oP BK625)) (g := gb629) (o := .cells #[.int .i64 6, .int .i64 0, .int .i64 0, .int .i64 0, .int .i64 0] 27 (0, 0)) (blk_put (blk_put (blk_put (blk_put (blk_put BK629.out 0 _ rfl) 1 _ rfl) 2 _ rfl) 3 _ rfl) 4 _ rfl)) (below_size (oB HB))) (o2_ (blk_below (oP BK624) hb) (o2_ (blk_below (oP BK625) hb) (o2_ (blk_below (g := gb629) (o := .cells #[.int .i64 6, .int .i64 0, .int .i64 0, .int .i64 0, .int .i64 0] 27 (0, 0)) (blk_put (blk_put (blk_put (blk_put (blk_put BK629.out 0 _ rfl) 1 _ rfl) 2 _ rfl) 3 _ rfl) 4 _ rfl) hb) (o1_ (below_step (oB HB) hb)))))); clear HO618 BK624 BK625 BK629 HB; obtain ⟨HO618, HO632, BK624, BK625, BK629, HB⟩ := n_; clear hb ho21; obtain ⟨Ao22, co22, eo22⟩ := Kd.R_slice HO632.out; subst eo22) | ((with_reducible refine gate_callee (f := 27) rfl ?_); refine goesL_ (some 35) rfl rfl Try.func27 oK rfl #[.agg #[.int .i64 t614, .int .i64 t615, .slice Ao12 t616.length co12], .slice Ao22 y630.length co22] rfl oA ?_; (with_reducible refine (laws_eaDo.calls k t614 t615 (fun k_ => some k_ = (.slice Ao12 t616.length co12 : Value).ownBlock) _ _ t616 _ _ y630 t633 t634 t635 _ ?side1 ?side2 ?side3 A6.out).mono ?_); (case side1 => exact Kd.Q_V (Kd.Q_tight rfl (Kd.Q_types (Kd.Q_types (Kd.Q_types (Kd.Q_apart' (HO618.out) (Kd.R_typed HO632.out) oD) BK624.out oD) BK625.out oD) BK629.out oD))); (case side2 => repeat (first | exact (Kd.R_reads' HO632.out).2.2 | (with_reducible refine Kd.C_alloc ?_ _) | (with_reducible refine Kd.C_drewN ?_ _) | (with_reducible refine Kd.C_drew ?_))); (case side3 => exact (Kd.R_reads' HO632.out).2.1); rintro e w23 ⟨v636, rfl, ho0, hb⟩; refine ⟨_, rfl, ?_⟩; have hq_ := (Kd.Q_types (Kd.Q_types (Kd.Q_types (Kd.Q_apart' (HO618.out) (Kd.R_typed HO632.out) oD) BK624.out oD) BK625.out oD) BK629.out oD); have n_ := o2_ (Kd.Q_below (oQ HO618) hb) (o2_ (Kd.V_lower (Kd.V_mono (ok' := fun k_ => some k_ ≠ (.slice Ao22 y630.length co22 : Value).ownBlock ∧ k_ ≠ gb624 ∧ k_ ≠ gb625 ∧ k_ ≠ gb629) ho0 (fun k_ hk_ => ⟨Or.elim hk_ (fun hs_ => (hq_.1 k_ hs_.symm).1.1.1.2) (fun hn_ => (Kd.fresh' (Kd.R_lt (oR HO632)) k_ hn_)), Or.elim hk_ (fun hs_ => (hq_.1 k_ hs_.symm).1.1.2) (fun hn_ => (Kd.freshB (oP BK624) k_ hn_)), Or.elim hk_ (fun hs_ => (hq_.1 k_ hs_.symm).1.2) (fun hn_ => (Kd.freshB (oP BK625) k_ hn_)), Or.elim hk_ (fun hs_ => (hq_.1 k_ hs_.symm).2) (fun hn_ => (Kd.freshB (oP BK629) k_ hn_))⟩)) (below_size (oB HB))) (o2_ (blk_below (oP BK624) hb) (o2_ (blk_below (oP BK625) hb) (o2_ (blk_below (oP BK629) hb) (o1_ (below_step (oB HB) hb)))))); clear HO618 BK624 BK625 BK629 HB; obtain ⟨HO618, HO637, BK624, BK625, BK629, HB⟩ := n_; clear hq_; (try clear hb); (try clear hb2); (try clear hk); (try clear hi); (try clear ho0)) | ((with_reducible refine gate_dst (N := 6) rfl ?_); refine box_event ?hg (N := 6) ?hd (cs := #[.int .i64 0, .int .i64 0, .slice none 0 0]) (t := 25) ?hr ?_; (case hd => rfl); (case hg => rfl); (case hr => first | (go_simp; done) | (go_simp; rfl)); intro gb638 hg w24 hbox hb; have n_ := o2_ (Kd.Q_below (oQ HO618) hb) (o2_ (Kd.V_below (Kd.V_elderB (oV HO637) gb638 (Nat.le_of_eq hg.symm)) hb) (o2_ (blk_below (oP BK624) hb) (o2_ (blk_below (oP BK625) hb) (o2_ (blk_below (oP BK629) hb) (o2_ (below_step (oB HB) hb) (o2_ (hbox) (o2_ ((oG hg (below_size (oB HB)) : w.heap.size ≤ gb638)) (o2_ ((oG hg (below_size (oB HB)) : w.heap.size ≤ gb638)) (o2_ ((oL hg (blk_lt (oP BK624)))) (o2_ ((oN hg (blk_lt (oP BK624)))) (o2_ ((oL hg (blk_lt (oP BK625)))) (o2_ ((oN hg (blk_lt (oP BK625)))) (o2_ ((oL hg (blk_lt (oP BK629)))) (o1_ ((oN hg (blk_lt (oP BK629)))))))))))))))))); clear HO618 HO637 BK624 BK625 BK629 HB; obtain ⟨HO618, HO637, BK624, BK625, BK629, HB, BK638, GW638, GE638, NB624_638, NB638_624, NB625_638, NB638_625, NB629_638, NB638_629⟩ := n_; clear hb hbox hg; have hnb25 := NB638_624.out; have hnc25 := NB624_638.out; have hnb26 := NB638_625.out; have hnc26 := NB625_638.out; have hnb27 := NB638_629.out; have hnc27 := NB629_638.out; have hcz28_0 : w24.cell? ⟨gb638, 0, none⟩ = some (.int .i64 0) := (blk_cell BK638.out 0).trans rfl; have hcz28_1 : w24.cell? ⟨gb638, 1, none⟩ = some (.int .i64 0) := (blk_cell BK638.out 1).trans rfl; have hcz28_2 : w24.cell? ⟨gb638, 2, none⟩ = some (.slice none 0 0) := (blk_cell BK638.out 2).trans rfl; have hfz28_0 := blk_frozen BK638.out 0; have hfz28_1 := blk_frozen BK638.out 1; have hfz28_2 := blk_frozen BK638.out 2; obtain ⟨Ao29, co29, eo29⟩ := Kd.V_slice HO637.out; subst eo29))
   go_loopg [7] k (fun kq v7 w' => ∃ (x7_1 : Int), v7 = .int .i64 x7_1 ∧ Aside0 (laws_FnOpBlurIn.l0 kq x7_1 t614 t615 t616 6 0 0 0 0 t633 t634 t635 = some r) ∧ Aside0 (kq ≤ k) ∧ Aside0 (Kd.Q k38 38 w' w.heap.size (fun _ => True) (.slice Ao12 t616.length co12) t616) ∧ Aside0 (Kd.V k38 38 w' w.heap.size (fun k_ => k_ ≠ gb624 ∧ k_ ≠ gb625 ∧ k_ ≠ gb629 ∧ k_ ≠ gb638) (.slice Ao29 t635.length co29) t635) ∧ Aside0 (w'.heap[gb624]? = some (.cells #[.int .i64 t614, .int .i64 t615, (.slice Ao12 t616.length co12)] 25 (0, 0))) ∧ Aside0 (w'.heap[gb625]? = some (.cells #[.int .i64 t619, .int .i64 t620, .int .i64 t621, .int .i64 t622, .int .i64 t623] 27 (0, 0))) ∧ Aside0 (w'.heap[gb629]? = some (.cells #[.int .i64 6, .int .i64 0, .int .i64 0, .int .i64 0, .int .i64 0] 27 (0, 0))) ∧ Aside0 (w'.heap[gb638]? = some (.cells #[.int .i64 t633, .int .i64 t634, (.slice Ao29 t635.length co29)] 25 (0, 0))) ∧ Aside0 (Below w.heap.size w w'))
   case atStart => exact ⟨(0), (by first | rfl | (simp; done) | (simp [*]; done)), H', ⟨Nat.le_refl _⟩, ⟨(by (with_reducible repeat (first | apply Kd.Q_alloc | apply Kd.Q_drewN | apply Kd.Q_drew)); exact Kd.Q_mono (Kd.Q_far (p := ⟨gb638, 2, none⟩) (Kd.Q_far (p := ⟨gb638, 1, none⟩) (Kd.Q_far (p := ⟨gb638, 0, none⟩) (Kd.Q_types HO618.out BK638.out oD) (fun _ hk => hk.2) (.int .i64 t633)) (fun _ hk => hk.2) (.int .i64 t634)) (fun _ hk => hk.2) (.slice Ao29 t635.length co29)) (fun _ hk => trivial))⟩, ⟨(by (with_reducible repeat (first | apply Kd.V_alloc | apply Kd.V_drewN | apply Kd.V_drew)); exact Kd.V_mono (Kd.V_far (p := ⟨gb638, 2, none⟩) (Kd.V_far (p := ⟨gb638, 1, none⟩) (Kd.V_far (p := ⟨gb638, 0, none⟩) (Kd.V_mono HO637.out (fun k_ hk => (⟨hk, hk.2⟩ : _ ∧ k_ ≠ gb638))) (fun _ hk => hk.2) (.int .i64 t633)) (fun _ hk => hk.2) (.int .i64 t634)) (fun _ hk => hk.2) (.slice Ao29 t635.length co29)) (fun _ hk => ⟨hk.1.1.2.1, ⟨hk.1.1.2.2.1, ⟨hk.1.1.2.2.2, hk.1.2⟩⟩⟩))⟩, ⟨(oP BK624)⟩, ⟨(oP BK625)⟩, ⟨(oP BK629)⟩, ⟨(blk_put (blk_put (blk_put BK638.out 0 _ rfl) 1 _ rfl) 2 _ rfl)⟩, ⟨(oB HB)⟩⟩
   case round =>
    clear H'
    try clear c1
    try clear c2
    try clear c2b0
    try clear c2b1
    try clear p2
    try clear c5
    try clear c6
    try clear c10
    try clear c16
    try clear c17
    try clear c18
    try clear c24
    try clear c25
    try clear c26
    try clear c27
    try clear hcz11_0
    try clear hcz11_1
    try clear hcz11_2
    try clear hcz13_0
    try clear hcz13_1
    try clear hcz13_2
    try clear hcz13_3
    try clear hcz13_4
    try clear hcz18_0
    try clear hcz18_1
    try clear hcz18_2
    try clear hcz18_3
    try clear hcz18_4
    try clear hcz19_0
    try clear hcz19_1
    try clear hcz19_2
    try clear hcz28_0
    try clear hcz28_1
    try clear hcz28_2
    try clear hfz11_0
    try clear hfz11_1
    try clear hfz11_2
    try clear hfz13_0
    try clear hfz13_1
    try clear hfz13_2
    try clear hfz13_3
    try clear hfz13_4
    try clear hfz18_0
    try clear hfz18_1
    try clear hfz18_2
    try clear hfz18_3
    try clear hfz18_4
    try clear hfz19_0
    try clear hfz19_1
    try clear hfz19_2
    try clear hfz28_0
    try clear hfz28_1
    try clear hfz28_2
    obtain ⟨x7_1, rfl, HA, HK1, HO_625002, HO_639002, BK624, BK625, BK629, BK638, HB⟩ := hrel
    cases gk with
    | zero => exact nomatch (show none = some _ from HA.out)
    | succ k1 =>
     have H := HA.out
     clear HA
     simp only [laws_FnOpBlurIn.l0] at H
     by_cases c30 : x7_1 < t615
     ·rw [if_pos c30] at H
      have c30b0 : decide (x7_1 < t615) = true := decide_eq_true c30
      clear c30
      have H' := Aside0.mk H
      clear H
      have hnb31 := NB624_625.out
      have hnc31 := NB625_624.out
      have hnb32 := NB624_629.out
      have hnc32 := NB629_624.out
      have hnb33 := NB624_638.out
      have hnc33 := NB638_624.out
      have hcz34_0 : wr.cell? ⟨gb624, 0, none⟩ = some (.int .i64 t614) := (blk_cell BK624.out 0).trans rfl
      have hcz34_1 : wr.cell? ⟨gb624, 1, none⟩ = some (.int .i64 t615) := (blk_cell BK624.out 1).trans rfl
      have hcz34_2 : wr.cell? ⟨gb624, 2, none⟩ = some (.slice Ao12 t616.length co12) := (blk_cell BK624.out 2).trans rfl
      have hfz34_0 := blk_frozen BK624.out 0
      have hfz34_1 := blk_frozen BK624.out 1
      have hfz34_2 := blk_frozen BK624.out 2
      go_wp2
      go_loopg [8] k1 (fun kq v8 w' => ∃ (x8_2 : Int), v8 = .int .i64 x8_2 ∧ Aside0 (laws_FnOpBlurIn.l1 kq x7_1 x8_2 t614 t615 t616 6 0 0 0 0 t633 t634 t635 = some r) ∧ Aside0 (kq ≤ k1) ∧ Aside0 (Kd.Q k38 38 w' w.heap.size (fun _ => True) (.slice Ao12 t616.length co12) t616) ∧ Aside0 (Kd.V k38 38 w' w.heap.size (fun k_ => k_ ≠ gb624 ∧ k_ ≠ gb625 ∧ k_ ≠ gb629 ∧ k_ ≠ gb638) (.slice Ao29 t635.length co29) t635) ∧ Aside0 (w'.heap[gb624]? = some (.cells #[.int .i64 t614, .int .i64 t615, (.slice Ao12 t616.length co12)] 25 (0, 0))) ∧ Aside0 (w'.heap[gb625]? = some (.cells #[.int .i64 t619, .int .i64 t620, .int .i64 t621, .int .i64 t622, .int .i64 t623] 27 (0, 0))) ∧ Aside0 (w'.heap[gb629]? = some (.cells #[.int .i64 6, .int .i64 0, .int .i64 0, .int .i64 0, .int .i64 0] 27 (0, 0))) ∧ Aside0 (w'.heap[gb638]? = some (.cells #[.int .i64 t633, .int .i64 t634, (.slice Ao29 t635.length co29)] 25 (0, 0))) ∧ Aside0 (Below w.heap.size w w'))
      case atStart => exact ⟨(0), (by first | rfl | (simp; done) | (simp [*]; done)), H', ⟨Nat.le_refl _⟩, ⟨(oQ HO_625002)⟩, ⟨(oV HO_639002)⟩, ⟨(oP BK624)⟩, ⟨(oP BK625)⟩, ⟨(oP BK629)⟩, ⟨(oP BK638)⟩, ⟨(oB HB)⟩⟩
      case round =>
       clear H'
       try clear c1
       try clear c2
       try clear c2b0
       try clear c2b1
       try clear p2
       try clear c3
       try clear c5
       try clear c6
       try clear c10
       try clear c16
       try clear c17
       try clear c18
       try clear c24
       try clear c25
       try clear c26
       try clear c27
       try clear c30
       try clear c30b0
       try clear c31
       try clear c32
       try clear c33
       try clear hcz11_0
       try clear hcz11_1
       try clear hcz11_2
       try clear hcz13_0
       try clear hcz13_1
       try clear hcz13_2
       try clear hcz13_3
       try clear hcz13_4
       try clear hcz18_0
       try clear hcz18_1
       try clear hcz18_2
       try clear hcz18_3
       try clear hcz18_4
       try clear hcz19_0
       try clear hcz19_1
       try clear hcz19_2
       try clear hcz28_0
       try clear hcz28_1
       try clear hcz28_2
       try clear hcz34_0
       try clear hcz34_1
       try clear hcz34_2
       try clear hfz11_0
       try clear hfz11_1
       try clear hfz11_2
       try clear hfz13_0
       try clear hfz13_1
       try clear hfz13_2
       try clear hfz13_3
       try clear hfz13_4
       try clear hfz18_0
       try clear hfz18_1
       try clear hfz18_2
       try clear hfz18_3
       try clear hfz18_4
       try clear hfz19_0
       try clear hfz19_1
       try clear hfz19_2
       try clear hfz28_0
       try clear hfz28_1
       try clear hfz28_2
       try clear hfz34_0
       try clear hfz34_1
       try clear hfz34_2
       try clear p2
       obtain ⟨x8_2, rfl, HA, HK2, HO_625002, HO_639002, BK624, BK625, BK629, BK638, HB⟩ := hrel
       cases gk with
       | zero => exact nomatch (show none = some _ from HA.out)
       | succ k2 =>
        have H := HA.out
        clear HA
        simp only [laws_FnOpBlurIn.l1] at H
        by_cases c35 : x8_2 < t614
        ·rw [if_pos c35] at H
         have c35b0 : decide (x8_2 < t614) = true := decide_eq_true c35
         clear c35
         obtain ⟨ji36, hji36⟩ : ∃ j_ : Int, (mx 0 (wrap64 (x8_2 - 1))) = j_ := ⟨_, rfl⟩
         replace H : ((laws_eaDo.f k2 t614 t615 t616 (([(⟨1, ji36, mx 0 (wrap64 (x7_1 - 1)), wrap64 ((wrap64 ((mn (wrap64 (t614 - 1)) (wrap64 (x8_2 + 1))) - (ji36))) + 1), wrap64 ((wrap64 ((mn (wrap64 (t615 - 1)) (wrap64 (x7_1 + 1))) - (mx 0 (wrap64 (x7_1 - 1))))) + 1)⟩ : S27), (⟨6, 0, 0, 0, 0⟩ : S27)] : List (S27)))).bind fun bt643 => ((impl_RasAt.f k2 bt643.1 bt643.2.1 bt643.2.2 (wrap64 (x8_2 - (ji36))) (wrap64 (x7_1 - (mx 0 (wrap64 (x7_1 - 1)))))).bind fun bt649 => ((impl_RasAt.f k2 t633 t634 t635 x8_2 x7_1).bind fun bt653 => (if (!(bt649.1 == bt653.1) || (!(bt649.2.1 == bt653.2.1) || (!(bt649.2.2.1 == bt653.2.2.1) || (!(bt649.2.2.2 == bt653.2.2.2))))) = true then (none) else (laws_FnOpBlurIn.l1 k2 x7_1 (wrap64 (x8_2 + 1)) t614 t615 t616 6 0 0 0 0 t633 t634 t635))))) = some r := by first | (rw [hji36] at H; exact H) | (simp only [hji36] at H ⊢; exact H)
         have hji36_ : (if 0 < (wrap64 (x8_2 - 1)) then (wrap64 (x8_2 - 1)) else 0) = ji36 := hji36
         obtain ⟨ji37, hji37⟩ : ∃ j_ : Int, (mx 0 (wrap64 (x7_1 - 1))) = j_ := ⟨_, rfl⟩
         replace H : ((laws_eaDo.f k2 t614 t615 t616 (([(⟨1, ji36, ji37, wrap64 ((wrap64 ((mn (wrap64 (t614 - 1)) (wrap64 (x8_2 + 1))) - (ji36))) + 1), wrap64 ((wrap64 ((mn (wrap64 (t615 - 1)) (wrap64 (x7_1 + 1))) - (ji37))) + 1)⟩ : S27), (⟨6, 0, 0, 0, 0⟩ : S27)] : List (S27)))).bind fun bt643 => ((impl_RasAt.f k2 bt643.1 bt643.2.1 bt643.2.2 (wrap64 (x8_2 - (ji36))) (wrap64 (x7_1 - (ji37)))).bind fun bt649 => ((impl_RasAt.f k2 t633 t634 t635 x8_2 x7_1).bind fun bt653 => (if (!(bt649.1 == bt653.1) || (!(bt649.2.1 == bt653.2.1) || (!(bt649.2.2.1 == bt653.2.2.1) || (!(bt649.2.2.2 == bt653.2.2.2))))) = true then (none) else (laws_FnOpBlurIn.l1 k2 x7_1 (wrap64 (x8_2 + 1)) t614 t615 t616 6 0 0 0 0 t633 t634 t635))))) = some r := by first | (rw [hji37] at H; exact H) | (simp only [hji37] at H ⊢; exact H)
         have hji37_ : (if 0 < (wrap64 (x7_1 - 1)) then (wrap64 (x7_1 - 1)) else 0) = ji37 := hji37
         obtain ⟨ji38, hji38⟩ : ∃ j_ : Int, (mn (wrap64 (t614 - 1)) (wrap64 (x8_2 + 1))) = j_ := ⟨_, rfl⟩
         replace H : ((laws_eaDo.f k2 t614 t615 t616 (([(⟨1, ji36, ji37, wrap64 ((wrap64 ((ji38) - (ji36))) + 1), wrap64 ((wrap64 ((mn (wrap64 (t615 - 1)) (wrap64 (x7_1 + 1))) - (ji37))) + 1)⟩ : S27), (⟨6, 0, 0, 0, 0⟩ : S27)] : List (S27)))).bind fun bt643 => ((impl_RasAt.f k2 bt643.1 bt643.2.1 bt643.2.2 (wrap64 (x8_2 - (ji36))) (wrap64 (x7_1 - (ji37)))).bind fun bt649 => ((impl_RasAt.f k2 t633 t634 t635 x8_2 x7_1).bind fun bt653 => (if (!(bt649.1 == bt653.1) || (!(bt649.2.1 == bt653.2.1) || (!(bt649.2.2.1 == bt653.2.2.1) || (!(bt649.2.2.2 == bt653.2.2.2))))) = true then (none) else (laws_FnOpBlurIn.l1 k2 x7_1 (wrap64 (x8_2 + 1)) t614 t615 t616 6 0 0 0 0 t633 t634 t635))))) = some r := by first | (rw [hji38] at H; exact H) | (simp only [hji38] at H ⊢; exact H)
         have hji38_ : (if (wrap64 (x8_2 + 1)) < (wrap64 (t614 - 1)) then (wrap64 (x8_2 + 1)) else (wrap64 (t614 - 1))) = ji38 := hji38
         obtain ⟨ji39, hji39⟩ : ∃ j_ : Int, (mn (wrap64 (t615 - 1)) (wrap64 (x7_1 + 1))) = j_ := ⟨_, rfl⟩
         replace H : ((laws_eaDo.f k2 t614 t615 t616 (([(⟨1, ji36, ji37, wrap64 ((wrap64 ((ji38) - (ji36))) + 1), wrap64 ((wrap64 ((ji39) - (ji37))) + 1)⟩ : S27), (⟨6, 0, 0, 0, 0⟩ : S27)] : List (S27)))).bind fun bt643 => ((impl_RasAt.f k2 bt643.1 bt643.2.1 bt643.2.2 (wrap64 (x8_2 - (ji36))) (wrap64 (x7_1 - (ji37)))).bind fun bt649 => ((impl_RasAt.f k2 t633 t634 t635 x8_2 x7_1).bind fun bt653 => (if (!(bt649.1 == bt653.1) || (!(bt649.2.1 == bt653.2.1) || (!(bt649.2.2.1 == bt653.2.2.1) || (!(bt649.2.2.2 == bt653.2.2.2))))) = true then (none) else (laws_FnOpBlurIn.l1 k2 x7_1 (wrap64 (x8_2 + 1)) t614 t615 t616 6 0 0 0 0 t633 t634 t635))))) = some r := by first | (rw [hji39] at H; exact H) | (simp only [hji39] at H ⊢; exact H)
         have hji39_ : (if (wrap64 (x7_1 + 1)) < (wrap64 (t615 - 1)) then (wrap64 (x7_1 + 1)) else (wrap64 (t615 - 1))) = ji39 := hji39
         obtain ⟨y640, hy640⟩ : ∃ y_ : List (S27), y_ = (([(⟨1, ji36, ji37, wrap64 ((wrap64 ((ji38) - (ji36))) + 1), wrap64 ((wrap64 ((ji39) - (ji37))) + 1)⟩ : S27), (⟨6, 0, 0, 0, 0⟩ : S27)] : List (S27))) := ⟨_, rfl⟩
         replace H : ((laws_eaDo.f k2 t614 t615 t616 y640).bind fun bt643 => ((impl_RasAt.f k2 bt643.1 bt643.2.1 bt643.2.2 (wrap64 (x8_2 - (ji36))) (wrap64 (x7_1 - (ji37)))).bind fun bt649 => ((impl_RasAt.f k2 t633 t634 t635 x8_2 x7_1).bind fun bt653 => (if (!(bt649.1 == bt653.1) || (!(bt649.2.1 == bt653.2.1) || (!(bt649.2.2.1 == bt653.2.2.1) || (!(bt649.2.2.2 == bt653.2.2.2))))) = true then (none) else (laws_FnOpBlurIn.l1 k2 x7_1 (wrap64 (x8_2 + 1)) t614 t615 t616 6 0 0 0 0 t633 t634 t635))))) = some r := by first | (rw [hy640]; with_reducible exact H) | (have H2_ := (Option.bind_some _ _).symm.trans H; rw [hy640]; with_reducible exact H2_) | (have H2_ := (Option.bind_some _ _).symm.trans H; with_reducible exact H2_) | with_reducible exact H | (rw [hy640]; exact H) | exact H
         have Ny640 := Aside0.mk hy640
         clear hy640
         replace H := Option.bind_eq_some_iff.mp H
         obtain ⟨⟨t643, t644, t645⟩, A400, H⟩ := H
         (try dsimp only at H)
         have A40 := Aside0.mk A400
         clear A400
         replace H := Option.bind_eq_some_iff.mp H
         obtain ⟨⟨t649, t650, t651, t652⟩, A410, H⟩ := H
         (try dsimp only at H)
         have A41 := Aside0.mk A410
         clear A410
         replace H := Option.bind_eq_some_iff.mp H
         obtain ⟨⟨t653, t654, t655, t656⟩, A420, H⟩ := H
         (try dsimp only at H)
         have A42 := Aside0.mk A420
         clear A420
         by_cases c43 : (!(t649 == t653) || (!(t650 == t654) || (!(t651 == t655) || (!(t652 == t656))))) = true
         ·rw [if_pos c43] at H
          exact absurd H (by simp)
         ·rw [if_neg c43] at H
          have c43b0 : (!(t649 == t653) || (!(t650 == t654) || (!(t651 == t655) || (!(t652 == t656))))) = false := by simpa using c43
          clear c43
          have H' := Aside0.mk H
          clear H
          have hnb44 := NB624_625.out
          have hnc44 := NB625_624.out
          have hnb45 := NB624_629.out
          have hnc45 := NB629_624.out
          have hnb46 := NB624_638.out
          have hnc46 := NB638_624.out
          have hcz47_0 : wr.cell? ⟨gb624, 0, none⟩ = some (.int .i64 t614) := (blk_cell BK624.out 0).trans rfl
          have hcz47_1 : wr.cell? ⟨gb624, 1, none⟩ = some (.int .i64 t615) := (blk_cell BK624.out 1).trans rfl
          have hcz47_2 : wr.cell? ⟨gb624, 2, none⟩ = some (.slice Ao12 t616.length co12) := (blk_cell BK624.out 2).trans rfl
          have hfz47_0 := blk_frozen BK624.out 0
          have hfz47_1 := blk_frozen BK624.out 1
          have hfz47_2 := blk_frozen BK624.out 2
          have hnb48 := NB629_625.out
          have hnc48 := NB625_629.out
          have hnb49 := NB629_638.out
          have hnc49 := NB638_629.out
          have hcz50_0 : wr.cell? ⟨gb629, 0, none⟩ = some (.int .i64 6) := (blk_cell BK629.out 0).trans rfl
          have hcz50_1 : wr.cell? ⟨gb629, 1, none⟩ = some (.int .i64 0) := (blk_cell BK629.out 1).trans rfl
          have hcz50_2 : wr.cell? ⟨gb629, 2, none⟩ = some (.int .i64 0) := (blk_cell BK629.out 2).trans rfl
          have hcz50_3 : wr.cell? ⟨gb629, 3, none⟩ = some (.int .i64 0) := (blk_cell BK629.out 3).trans rfl
          have hcz50_4 : wr.cell? ⟨gb629, 4, none⟩ = some (.int .i64 0) := (blk_cell BK629.out 4).trans rfl
          have hfz50_0 := blk_frozen BK629.out 0
          have hfz50_1 := blk_frozen BK629.out 1
          have hfz50_2 := blk_frozen BK629.out 2
          have hfz50_3 := blk_frozen BK629.out 3
          have hfz50_4 := blk_frozen BK629.out 4
          try go_wp2_with (first | ((with_reducible refine gate_dst (N := 79) rfl ?_); refine Kd.R_lit k27 _ 27 ?hg (N := 79) ?hd (xs := ([(⟨1, ji36, ji37, wrap64 ((wrap64 ((ji38) - (ji36))) + 1), wrap64 ((wrap64 ((ji39) - (ji37))) + 1)⟩ : S27), (⟨6, 0, 0, 0, 0⟩ : S27)] : List (S27))) (inner := [.int .i64 1, .int .i64 ji36, .int .i64 ji37, .int .i64 (wrap64 ((wrap64 ((ji38) - (ji36))) + 1)), .int .i64 (wrap64 ((wrap64 ((ji39) - (ji37))) + 1)), .int .i64 6, .int .i64 0, .int .i64 0, .int .i64 0, .int .i64 0]) (ok := fun _ => True) (okp := fun _ => True) ?hr ?hp (fun _ hk => hk) trivial (Below.refl _ _) (Nat.le_refl _) (by simp) ?_; (case hd => rfl); (case hg => rfl); (case hr => first | (go_simp; done) | (go_simp; rfl)); (case hp => exact (Reps.c5 (show Kd.M k27 _ _ _ (⟨1, ji36, ji37, wrap64 ((wrap64 ((ji38) - (ji36))) + 1), wrap64 ((wrap64 ((ji39) - (ji37))) + 1)⟩ : S27) [.int .i64 1, .int .i64 ji36, .int .i64 ji37, .int .i64 (wrap64 ((wrap64 ((ji38) - (ji36))) + 1)), .int .i64 (wrap64 ((wrap64 ((ji39) - (ji37))) + 1))] from (k27_mkM _ _ _ (⟨1, ji36, ji37, wrap64 ((wrap64 ((ji38) - (ji36))) + 1), wrap64 ((wrap64 ((ji39) - (ji37))) + 1)⟩ : S27) )) (Reps.c5 (show Kd.M k27 _ _ _ (⟨6, 0, 0, 0, 0⟩ : S27) [.int .i64 6, .int .i64 0, .int .i64 0, .int .i64 0, .int .i64 0] from (k27_mkM _ _ _ (⟨6, 0, 0, 0, 0⟩ : S27) )) (Reps.none _ _)))); intro v641 w51 ho52 hb hg_ hnew_; clear hg_ hnew_; (first | rw [← Ny640.out] at ho52 | (simp only [Int.reduceToNat] at ho52; rw [← Ny640.out] at ho52)); have n_ := o2_ (Kd.Q_below (oQ HO_625002) hb) (o2_ (Kd.V_elder' (oV HO_639002) (Kd.R_base ho52) hb) (o2_ (Kd.R_lower (Kd.R_newB (Kd.R_newB ho52 (oP BK625)) (oP BK629)) (below_size (oB HB))) (o2_ (blk_below (oP BK624) hb) (o2_ (blk_below (oP BK625) hb) (o2_ (blk_below (oP BK629) hb) (o2_ (blk_below (oP BK638) hb) (o1_ (below_step (oB HB) hb)))))))); clear HO_625002 HO_639002 BK624 BK625 BK629 BK638 HB; obtain ⟨HO_625002, HO_639002, HO642, BK624, BK625, BK629, BK638, HB⟩ := n_; clear hb ho52; obtain ⟨Ao53, co53, eo53⟩ := Kd.R_slice HO642.out; subst eo53) | ((with_reducible refine gate_callee (f := 27) rfl ?_); refine goesL_ (some 80) rfl rfl Try.func27 oK rfl #[.agg #[.int .i64 t614, .int .i64 t615, .slice Ao12 t616.length co12], .slice Ao53 y640.length co53] rfl oA ?_; (with_reducible refine (laws_eaDo.calls k2 t614 t615 (fun k_ => some k_ = (.slice Ao12 t616.length co12 : Value).ownBlock) _ _ t616 _ _ y640 t643 t644 t645 _ ?side1 ?side2 ?side3 A40.out).mono ?_); (case side1 => exact Kd.Q_V (Kd.Q_tight rfl (Kd.Q_types (Kd.Q_types (Kd.Q_types (Kd.Q_types (Kd.Q_apart' (HO_625002.out) (Kd.R_typed HO642.out) oD) BK624.out oD) BK625.out oD) BK629.out oD) BK638.out oD))); (case side2 => repeat (first | exact (Kd.R_reads' HO642.out).2.2 | (with_reducible refine Kd.C_alloc ?_ _) | (with_reducible refine Kd.C_drewN ?_ _) | (with_reducible refine Kd.C_drew ?_))); (case side3 => exact (Kd.R_reads' HO642.out).2.1); rintro e w54 ⟨v646, rfl, ho0, hb⟩; refine ⟨_, rfl, ?_⟩; have hq_ := (Kd.Q_types (Kd.Q_types (Kd.Q_types (Kd.Q_types (Kd.Q_apart' (HO_625002.out) (Kd.R_typed HO642.out) oD) BK624.out oD) BK625.out oD) BK629.out oD) BK638.out oD); have n_ := o2_ (Kd.Q_below (oQ HO_625002) hb) (o2_ (Kd.V_below (oV HO_639002) hb) (o2_ (Kd.R_below (oR HO642) hb) (o2_ (Kd.V_lower (Kd.V_mono (ok' := fun k_ => some k_ ≠ (.slice Ao53 y640.length co53 : Value).ownBlock ∧ k_ ≠ gb624 ∧ k_ ≠ gb625 ∧ k_ ≠ gb629 ∧ k_ ≠ gb638) ho0 (fun k_ hk_ => ⟨Or.elim hk_ (fun hs_ => (hq_.1 k_ hs_.symm).1.1.1.1.2) (fun hn_ => (Kd.fresh' (Kd.R_lt (oR HO642)) k_ hn_)), Or.elim hk_ (fun hs_ => (hq_.1 k_ hs_.symm).1.1.1.2) (fun hn_ => (Kd.freshB (oP BK624) k_ hn_)), Or.elim hk_ (fun hs_ => (hq_.1 k_ hs_.symm).1.1.2) (fun hn_ => (Kd.freshB (oP BK625) k_ hn_)), Or.elim hk_ (fun hs_ => (hq_.1 k_ hs_.symm).1.2) (fun hn_ => (Kd.freshB (oP BK629) k_ hn_)), Or.elim hk_ (fun hs_ => (hq_.1 k_ hs_.symm).2) (fun hn_ => (Kd.freshB (oP BK638) k_ hn_))⟩)) (below_size (oB HB))) (o2_ (blk_below (oP BK624) hb) (o2_ (blk_below (oP BK625) hb) (o2_ (blk_below (oP BK629) hb) (o2_ (blk_below (oP BK638) hb) (o1_ (below_step (oB HB) hb))))))))); clear HO_625002 HO_639002 HO642 BK624 BK625 BK629 BK638 HB; obtain ⟨HO_625002, HO_639002, HO642, HO647, BK624, BK625, BK629, BK638, HB⟩ := n_; clear hq_; (try clear hb); (try clear hb2); (try clear hk); (try clear hi); (try clear ho0)) | ((with_reducible refine gate_dst (N := 13) rfl ?_); refine box_event ?hg (N := 13) ?hd (cs := #[.int .i64 0, .int .i64 0, .slice none 0 0]) (t := 25) ?hr ?_; (case hd => rfl); (case hg => rfl); (case hr => first | (go_simp; done) | (go_simp; rfl)); intro gb648 hg w55 hbox hb; have n_ := o2_ (Kd.Q_below (oQ HO_625002) hb) (o2_ (Kd.V_below (Kd.V_elderB (oV HO_639002) gb648 (Nat.le_of_eq hg.symm)) hb) (o2_ (Kd.R_below (oR HO642) hb) (o2_ (Kd.V_below (Kd.V_elderB (oV HO647) gb648 (Nat.le_of_eq hg.symm)) hb) (o2_ (blk_below (oP BK624) hb) (o2_ (blk_below (oP BK625) hb) (o2_ (blk_below (oP BK629) hb) (o2_ (blk_below (oP BK638) hb) (o2_ (below_step (oB HB) hb) (o2_ (hbox) (o2_ ((oG hg (below_size (oB HB)) : w.heap.size ≤ gb648)) (o2_ ((oG hg (below_size (oB HB)) : w.heap.size ≤ gb648)) (o2_ ((oL hg (blk_lt (oP BK624)))) (o2_ ((oN hg (blk_lt (oP BK624)))) (o2_ ((oL hg (blk_lt (oP BK625)))) (o2_ ((oN hg (blk_lt (oP BK625)))) (o2_ ((oL hg (blk_lt (oP BK629)))) (o2_ ((oN hg (blk_lt (oP BK629)))) (o2_ ((oL hg (blk_lt (oP BK638)))) (o1_ ((oN hg (blk_lt (oP BK638))))))))))))))))))))))); clear HO_625002 HO_639002 HO642 HO647 BK624 BK625 BK629 BK638 HB; obtain ⟨HO_625002, HO_639002, HO642, HO647, BK624, BK625, BK629, BK638, HB, BK648, GW648, GE648, NB624_648, NB648_624, NB625_648, NB648_625, NB629_648, NB648_629, NB638_648, NB648_638⟩ := n_; clear hb hbox hg; have hnb56 := NB648_624.out; have hnc56 := NB624_648.out; have hnb57 := NB648_625.out; have hnc57 := NB625_648.out; have hnb58 := NB648_629.out; have hnc58 := NB629_648.out; have hnb59 := NB648_638.out; have hnc59 := NB638_648.out; have hcz60_0 : w55.cell? ⟨gb648, 0, none⟩ = some (.int .i64 0) := (blk_cell BK648.out 0).trans rfl; have hcz60_1 : w55.cell? ⟨gb648, 1, none⟩ = some (.int .i64 0) := (blk_cell BK648.out 1).trans rfl; have hcz60_2 : w55.cell? ⟨gb648, 2, none⟩ = some (.slice none 0 0) := (blk_cell BK648.out 2).trans rfl; have hfz60_0 := blk_frozen BK648.out 0; have hfz60_1 := blk_frozen BK648.out 1; have hfz60_2 := blk_frozen BK648.out 2; obtain ⟨Ao61, co61, eo61⟩ := Kd.V_slice HO647.out; subst eo61))
          have n0_ : Aside0 (Kd.Q k38 38 (((w55.setCell ⟨gb648, 0, none⟩ (.int .i64 t643)).setCell ⟨gb648, 1, none⟩ (.int .i64 t644)).setCell ⟨gb648, 2, none⟩ (.slice Ao61 t645.length co61)) w.heap.size (fun _ => True) (.slice Ao12 t616.length co12) t616) := ⟨(by (with_reducible repeat (first | apply Kd.Q_alloc | apply Kd.Q_drewN | apply Kd.Q_drew)); exact Kd.Q_mono (Kd.Q_far (p := ⟨gb648, 2, none⟩) (Kd.Q_far (p := ⟨gb648, 1, none⟩) (Kd.Q_far (p := ⟨gb648, 0, none⟩) (Kd.Q_types HO_625002.out BK648.out oD) (fun _ hk => hk.2) (.int .i64 t643)) (fun _ hk => hk.2) (.int .i64 t644)) (fun _ hk => hk.2) (.slice Ao61 t645.length co61)) (fun _ hk => trivial))⟩
          have n1_ : Aside0 (Kd.V k38 38 (((w55.setCell ⟨gb648, 0, none⟩ (.int .i64 t643)).setCell ⟨gb648, 1, none⟩ (.int .i64 t644)).setCell ⟨gb648, 2, none⟩ (.slice Ao61 t645.length co61)) w.heap.size (fun k_ => some k_ ≠ (.slice Ao53 y640.length co53 : Value).ownBlock ∧ k_ ≠ gb624 ∧ k_ ≠ gb625 ∧ k_ ≠ gb629 ∧ k_ ≠ gb638 ∧ k_ ≠ gb648) (.slice Ao29 t635.length co29) t635) := ⟨(by (with_reducible repeat (first | apply Kd.V_alloc | apply Kd.V_drewN | apply Kd.V_drew)); exact Kd.V_mono (Kd.V_far (p := ⟨gb648, 2, none⟩) (Kd.V_far (p := ⟨gb648, 1, none⟩) (Kd.V_far (p := ⟨gb648, 0, none⟩) (Kd.V_mono HO_639002.out (fun k_ hk => (⟨hk, hk.2⟩ : _ ∧ k_ ≠ gb648))) (fun _ hk => hk.2) (.int .i64 t643)) (fun _ hk => hk.2) (.int .i64 t644)) (fun _ hk => hk.2) (.slice Ao61 t645.length co61)) (fun _ hk => ⟨hk.1.1.2, ⟨hk.1.1.1.1, ⟨hk.1.1.1.2.1, ⟨hk.1.1.1.2.2.1, ⟨hk.1.1.1.2.2.2, hk.1.2⟩⟩⟩⟩⟩))⟩
          have n2_ : Aside0 (Kd.R k27 27 (((w55.setCell ⟨gb648, 0, none⟩ (.int .i64 t643)).setCell ⟨gb648, 1, none⟩ (.int .i64 t644)).setCell ⟨gb648, 2, none⟩ (.slice Ao61 t645.length co61)) w.heap.size (fun k_ => k_ ≠ gb625 ∧ k_ ≠ gb629) (.slice Ao53 y640.length co53) y640) := ⟨(by (with_reducible repeat (first | apply Kd.R_alloc | apply Kd.R_drewN | apply Kd.R_drew)); exact Kd.R_mono (Kd.R_far (p := ⟨gb648, 2, none⟩) (Kd.R_far (p := ⟨gb648, 1, none⟩) (Kd.R_far (p := ⟨gb648, 0, none⟩) (Kd.R_types HO642.out BK648.out oD) (fun _ hk => hk.2) (.int .i64 t643)) (fun _ hk => hk.2) (.int .i64 t644)) (fun _ hk => hk.2) (.slice Ao61 t645.length co61)) (fun _ hk => ⟨hk.1.1.2, hk.1.2⟩))⟩
          have n3_ : Aside0 (Kd.V k38 38 (((w55.setCell ⟨gb648, 0, none⟩ (.int .i64 t643)).setCell ⟨gb648, 1, none⟩ (.int .i64 t644)).setCell ⟨gb648, 2, none⟩ (.slice Ao61 t645.length co61)) w.heap.size (fun k_ => some k_ ≠ (.slice Ao53 y640.length co53 : Value).ownBlock ∧ k_ ≠ gb624 ∧ k_ ≠ gb625 ∧ k_ ≠ gb629 ∧ k_ ≠ gb638 ∧ k_ ≠ gb648) (.slice Ao61 t645.length co61) t645) := ⟨(by (with_reducible repeat (first | apply Kd.V_alloc | apply Kd.V_drewN | apply Kd.V_drew)); exact Kd.V_mono (Kd.V_far (p := ⟨gb648, 2, none⟩) (Kd.V_far (p := ⟨gb648, 1, none⟩) (Kd.V_far (p := ⟨gb648, 0, none⟩) (Kd.V_mono HO647.out (fun k_ hk => (⟨hk, hk.2⟩ : _ ∧ k_ ≠ gb648))) (fun _ hk => hk.2) (.int .i64 t643)) (fun _ hk => hk.2) (.int .i64 t644)) (fun _ hk => hk.2) (.slice Ao61 t645.length co61)) (fun _ hk => ⟨hk.1.1.1, ⟨hk.1.1.2.1, ⟨hk.1.1.2.2.1, ⟨hk.1.1.2.2.2.1, ⟨hk.1.1.2.2.2.2, hk.1.2⟩⟩⟩⟩⟩))⟩
          have n4_ : Aside0 ((((w55.setCell ⟨gb648, 0, none⟩ (.int .i64 t643)).setCell ⟨gb648, 1, none⟩ (.int .i64 t644)).setCell ⟨gb648, 2, none⟩ (.slice Ao61 t645.length co61)).heap[gb624]? = some (.cells #[.int .i64 t614, .int .i64 t615, .slice Ao12 t616.length co12] 25 (0, 0))) := ⟨(oP BK624)⟩
          have n5_ : Aside0 ((((w55.setCell ⟨gb648, 0, none⟩ (.int .i64 t643)).setCell ⟨gb648, 1, none⟩ (.int .i64 t644)).setCell ⟨gb648, 2, none⟩ (.slice Ao61 t645.length co61)).heap[gb625]? = some (.cells #[.int .i64 t619, .int .i64 t620, .int .i64 t621, .int .i64 t622, .int .i64 t623] 27 (0, 0))) := ⟨(oP BK625)⟩
          have n6_ : Aside0 ((((w55.setCell ⟨gb648, 0, none⟩ (.int .i64 t643)).setCell ⟨gb648, 1, none⟩ (.int .i64 t644)).setCell ⟨gb648, 2, none⟩ (.slice Ao61 t645.length co61)).heap[gb629]? = some (.cells #[.int .i64 6, .int .i64 0, .int .i64 0, .int .i64 0, .int .i64 0] 27 (0, 0))) := ⟨(oP BK629)⟩
          have n7_ : Aside0 ((((w55.setCell ⟨gb648, 0, none⟩ (.int .i64 t643)).setCell ⟨gb648, 1, none⟩ (.int .i64 t644)).setCell ⟨gb648, 2, none⟩ (.slice Ao61 t645.length co61)).heap[gb638]? = some (.cells #[.int .i64 t633, .int .i64 t634, .slice Ao29 t635.length co29] 25 (0, 0))) := ⟨(oP BK638)⟩
          have n8_ : Aside0 ((((w55.setCell ⟨gb648, 0, none⟩ (.int .i64 t643)).setCell ⟨gb648, 1, none⟩ (.int .i64 t644)).setCell ⟨gb648, 2, none⟩ (.slice Ao61 t645.length co61)).heap[gb648]? = some (.cells #[.int .i64 t643, .int .i64 t644, .slice Ao61 t645.length co61] 25 (0, 0))) := ⟨(blk_put (blk_put (blk_put BK648.out 0 _ rfl) 1 _ rfl) 2 _ rfl)⟩
          have n9_ : Aside0 (Below w.heap.size w (((w55.setCell ⟨gb648, 0, none⟩ (.int .i64 t643)).setCell ⟨gb648, 1, none⟩ (.int .i64 t644)).setCell ⟨gb648, 2, none⟩ (.slice Ao61 t645.length co61))) := ⟨(oB HB)⟩
          (try clear HO_625002)
          (try clear HO_639002)
          (try clear HO642)
          (try clear HO647)
          (try clear BK624)
          (try clear BK625)
          (try clear BK629)
          (try clear BK638)
          (try clear BK648)
          (try clear HB)
          generalize (((w55.setCell ⟨gb648, 0, none⟩ (.int .i64 t643)).setCell ⟨gb648, 1, none⟩ (.int .i64 t644)).setCell ⟨gb648, 2, none⟩ (.slice Ao61 t645.length co61)) = w62 at n0_ n1_ n2_ n3_ n4_ n5_ n6_ n7_ n8_ n9_ ⊢
          have HO_625002 := n0_
          have HO_639002 := n1_
          have HO642 := n2_
          have HO647 := n3_
          have BK624 := n4_
          have BK625 := n5_
          have BK629 := n6_
          have BK638 := n7_
          have BK648 := n8_
          have HB := n9_
          clear n0_ n1_ n2_ n3_ n4_ n5_ n6_ n7_ n8_ n9_
          have n_ := o2_ (Kd.Q_drew HO_625002.out) (o2_ (Kd.V_drew HO_639002.out) (o2_ (Kd.R_drew HO642.out) (o2_ (Kd.V_drew HO647.out) (o2_ (blk_drew BK624.out) (o2_ (blk_drew BK625.out) (o2_ (blk_drew BK629.out) (o2_ (blk_drew BK638.out) (o2_ (blk_drew BK648.out) (o1_ (below_drew1 HB.out))))))))))
          clear HO_625002 HO_639002 HO642 HO647 BK624 BK625 BK629 BK638 BK648 HB
          obtain ⟨HO_625002, HO_639002, HO642, HO647, BK624, BK625, BK629, BK638, BK648, HB⟩ := n_
          refine start_ (n := 13) (S := fun w' => w'.cell? ⟨gb648, 0, none⟩ = some (.int .i64 t643) ∧ w'.cell? ⟨gb648, 1, none⟩ = some (.int .i64 t644) ∧ w'.cell? ⟨gb648, 2, none⟩ = some (.slice Ao61 t645.length co61) ∧ w'.cell? ⟨gb638, 0, none⟩ = some (.int .i64 t633) ∧ w'.cell? ⟨gb638, 1, none⟩ = some (.int .i64 t634) ∧ w'.cell? ⟨gb638, 2, none⟩ = some (.slice Ao29 t635.length co29)) (ds := []) #[false, false, false, false, false, false, false, false, false, false, false, false, false] oK rfl rfl ⟨(blk_cell BK648.out 0).trans rfl, (blk_cell BK648.out 1).trans rfl, (blk_cell BK648.out 2).trans rfl, (blk_cell BK638.out 0).trans rfl, (blk_cell BK638.out 1).trans rfl, (blk_cell BK638.out 2).trans rfl⟩ (fun hHeld => ?_); refine with_tabW laws_FnOpBlurIn.tab19 laws_FnOpBlurIn.bits19 (fun HT_ HW_ => ?_)
          generalize w62.drew = w63 at HO_625002 HO_639002 HO642 HO647 BK624 BK625 BK629 BK638 BK648 HB hHeld ⊢
          refine pure_ (i := 1) (N := some 82) (v := ?_) (a' := ?_) #[false, true, false, false, false, false, false, false, false, false, false, false, false] rfl rfl (any_of HT_.out oK) (fun _ _ _ h => h) (Or.inl ⟨by rfl, ?_⟩) ?_ ?_
          rotate_left
          ·intro w'
           go_simp
           with_reducible rfl
          rotate_left
          ·simp only [Act.put, List.setIfInBounds_toArray, List.set_cons_zero, List.set_cons_succ, i64_w, i32_w]
           rfl
          refine pure_ (i := 2) (N := some 83) (v := ?_) (a' := ?_) #[false, true, true, false, false, false, false, false, false, false, false, false, false] rfl rfl (any_of HT_.out oK) (fun _ _ _ h => h) (Or.inl ⟨by rfl, ?_⟩) ?_ ?_
          rotate_left
          ·intro w'
           go_simp
           with_reducible rfl
          rotate_left
          ·simp only [Act.put, List.setIfInBounds_toArray, List.set_cons_zero, List.set_cons_succ, i64_w, i32_w]
           rfl
          refine pure_ (i := 3) (N := some 84) (v := ?_) (a' := ?_) #[false, true, true, true, false, false, false, false, false, false, false, false, false] rfl rfl (any_of HT_.out oK) (fun _ _ _ h => h) (Or.inl ⟨by rfl, ?_⟩) ?_ ?_
          rotate_left
          ·intro w'
           go_simp
           with_reducible rfl
          rotate_left
          ·simp only [Act.put, List.setIfInBounds_toArray, List.set_cons_zero, List.set_cons_succ, i64_w, i32_w]
           rfl
          refine pure_ (i := 4) (N := some 85) (v := ?_) (a' := ?_) #[false, true, true, true, true, false, false, false, false, false, false, false, false] rfl rfl (any_of HT_.out oK) (fun _ _ _ h => h) (Or.inl ⟨by rfl, ?_⟩) ?_ ?_
          rotate_left
          ·intro w'
           go_simp
           with_reducible rfl
          rotate_left
          ·simp only [Act.put, List.setIfInBounds_toArray, List.set_cons_zero, List.set_cons_succ, i64_w, i32_w]
           rfl
          refine pure_ (i := 5) (N := some 86) (v := ?_) (a' := ?_) #[false, true, true, true, true, true, false, false, false, false, false, false, false] rfl rfl (any_of HT_.out oK) (fun _ _ _ h => h) (Or.inl ⟨by rfl, ?_⟩) ?_ ?_
          rotate_left
          ·intro w'
           go_simp
           with_reducible rfl
          rotate_left
          ·simp only [Act.put, List.setIfInBounds_toArray, List.set_cons_zero, List.set_cons_succ, i64_w, i32_w]
           rfl
          refine pure_ (i := 6) (N := some 87) (v := ?_) (a' := ?_) #[false, true, true, true, true, true, true, false, false, false, false, false, false] rfl rfl (any_of HT_.out oK) (fun _ _ _ h => h) (Or.inl ⟨by rfl, ?_⟩) ?_ ?_
          rotate_left
          ·intro w'
           go_simp
           with_reducible rfl
          rotate_left
          ·simp only [Act.put, List.setIfInBounds_toArray, List.set_cons_zero, List.set_cons_succ, i64_w, i32_w]
           rfl
          refine pure_ (i := 9) (N := some 90) (v := ?_) (a' := ?_) #[false, true, true, true, true, true, true, false, false, true, false, false, false] rfl rfl (any_of HT_.out oK) (fun _ _ _ h => h) (Or.inl ⟨by rfl, ?_⟩) ?_ ?_
          rotate_left
          ·intro w'
           go_simp
           with_reducible rfl
          rotate_left
          ·simp only [Act.put, List.setIfInBounds_toArray, List.set_cons_zero, List.set_cons_succ, i64_w, i32_w]
           rfl
          refine pure_ (i := 10) (N := some 91) (v := ?_) (a' := ?_) #[false, true, true, true, true, true, true, false, false, true, true, false, false] rfl rfl (any_of HT_.out oK) (fun _ _ _ h => h) (Or.inl ⟨by rfl, ?_⟩) ?_ ?_
          rotate_left
          ·intro w'
           go_simp
           with_reducible rfl
          rotate_left
          ·simp only [Act.put, List.setIfInBounds_toArray, List.set_cons_zero, List.set_cons_succ, i64_w, i32_w]
           rfl
          refine take_ (i := 0) (N := some 81) (v := ?_) (a' := ?_) #[true, true, true, true, true, true, true, false, false, true, true, false, false] rfl rfl (take_ofW HT_.out HW_.out oK) (fun _ _ _ h => h) (Or.inl ⟨by rfl, ?_⟩) hHeld ?_ ?_
          rotate_left
          ·rintro w' ⟨s0, s1, s2, s3, s4, s5⟩
           go_simp
           with_reducible rfl
          rotate_left
          ·simp only [Act.put, List.setIfInBounds_toArray, List.set_cons_zero, List.set_cons_succ, i64_w, i32_w]
           rfl
          refine take_ (i := 8) (N := some 89) (v := ?_) (a' := ?_) #[true, true, true, true, true, true, true, false, true, true, true, false, false] rfl rfl (take_ofW HT_.out HW_.out oK) (fun _ _ _ h => h) (Or.inl ⟨by rfl, ?_⟩) hHeld ?_ ?_
          rotate_left
          ·rintro w' ⟨s0, s1, s2, s3, s4, s5⟩
           go_simp
           with_reducible rfl
          rotate_left
          ·simp only [Act.put, List.setIfInBounds_toArray, List.set_cons_zero, List.set_cons_succ, i64_w, i32_w]
           rfl
          refine one_ (i := 7) (N := some 88) #[true, true, true, true, true, true, true, true, true, true, true, false, false] rfl rfl (one_of HT_.out oK) oD (fun K hK => ?_)
          refine goes_ Try.func28 oK rfl #[.agg #[.int .i64 t643, .int .i64 t644, .slice Ao61 t645.length co61], .int .i64 (wrap64 (x8_2 - (ji36))), .int .i64 (wrap64 (x7_1 - (ji37)))] (by rfl) rfl rfl (by (try simp only [List.map_toArray, List.map_cons, List.map_nil]); first | done | (simp only [hji36, hji37]; rfl) | rfl | (simp only [List.length_drop, List.length_take]; rfl)) ?_
          with_reducible refine (impl_RasAt.calls k2 t643 t644 _ _ t645 (wrap64 (x8_2 - (ji36))) (wrap64 (x7_1 - (ji37))) t649 t650 t651 t652 _ ?side1 ?side2 A41.out).mono ?_
          (case side1 => repeat (first | exact (Kd.V_reads' HO647.out).2.2 | (with_reducible refine Kd.C_alloc ?_ _) | (with_reducible refine Kd.C_drewN ?_ _) | (with_reducible refine Kd.C_drew ?_)))
          (case side2 => exact (Kd.V_reads' HO647.out).2.1)
          rintro e w64 ⟨rfl, hb⟩
          refine ⟨_, rfl, ?_⟩
          have n_ := o2_ (Kd.Q_below (oQ HO_625002) hb) (o2_ (Kd.V_below (oV HO_639002) hb) (o2_ (blk_below (oP BK624) hb) (o2_ (blk_below (oP BK625) hb) (o2_ (blk_below (oP BK629) hb) (o2_ (blk_below (oP BK638) hb) (o2_ (blk_below (oP BK648) hb) (o1_ (below_step (oB HB) hb))))))))
          clear HO_625002 HO_639002 BK624 BK625 BK629 BK638 BK648 HB
          obtain ⟨HO_625002, HO_639002, BK624, BK625, BK629, BK638, BK648, HB⟩ := n_
          (try clear hb)
          (try clear hb2)
          (try clear hk)
          (try clear hi)
          refine hK.out _ _ ⟨(blk_cell BK648.out 0).trans rfl, (blk_cell BK648.out 1).trans rfl, (blk_cell BK648.out 2).trans rfl, (blk_cell BK638.out 0).trans rfl, (blk_cell BK638.out 1).trans rfl, (blk_cell BK638.out 2).trans rfl⟩ (fun hHeld => ?_)
          clear hK K
          refine norm_ (a' := ?_) ?_ ?_
          rotate_left
          ·show Act.put _ (some 88) _ = _
           simp only [Act.put, List.setIfInBounds_toArray, List.set_cons_zero, List.set_cons_succ, i64_w, i32_w]
           rfl
          refine one_ (i := 11) (N := some 92) #[true, true, true, true, true, true, true, true, true, true, true, true, false] rfl rfl (one_of HT_.out oK) oD (fun K hK => ?_)
          refine goes_ Try.func28 oK rfl #[.agg #[.int .i64 t633, .int .i64 t634, .slice Ao29 t635.length co29], .int .i64 x8_2, .int .i64 x7_1] (by rfl) rfl rfl oA ?_
          with_reducible refine (impl_RasAt.calls k2 t633 t634 _ _ t635 x8_2 x7_1 t653 t654 t655 t656 _ ?side1 ?side2 A42.out).mono ?_
          (case side1 => repeat (first | exact (Kd.V_reads' HO_639002.out).2.2 | (with_reducible refine Kd.C_alloc ?_ _) | (with_reducible refine Kd.C_drewN ?_ _) | (with_reducible refine Kd.C_drew ?_)))
          (case side2 => exact (Kd.V_reads' HO_639002.out).2.1)
          rintro e w65 ⟨rfl, hb⟩
          refine ⟨_, rfl, ?_⟩
          have n_ := o2_ (Kd.Q_below (oQ HO_625002) hb) (o2_ (Kd.V_below (oV HO_639002) hb) (o2_ (blk_below (oP BK624) hb) (o2_ (blk_below (oP BK625) hb) (o2_ (blk_below (oP BK629) hb) (o2_ (blk_below (oP BK638) hb) (o2_ (blk_below (oP BK648) hb) (o1_ (below_step (oB HB) hb))))))))
          clear HO_625002 HO_639002 BK624 BK625 BK629 BK638 BK648 HB
          obtain ⟨HO_625002, HO_639002, BK624, BK625, BK629, BK638, BK648, HB⟩ := n_
          (try clear hb)
          (try clear hb2)
          (try clear hk)
          (try clear hi)
          refine hK.out _ _ ⟨(blk_cell BK648.out 0).trans rfl, (blk_cell BK648.out 1).trans rfl, (blk_cell BK648.out 2).trans rfl, (blk_cell BK638.out 0).trans rfl, (blk_cell BK638.out 1).trans rfl, (blk_cell BK638.out 2).trans rfl⟩ (fun hHeld => ?_)
          clear hK K
          refine norm_ (a' := ?_) ?_ ?_
          rotate_left
          ·show Act.put _ (some 92) _ = _
           simp only [Act.put, List.setIfInBounds_toArray, List.set_cons_zero, List.set_cons_succ, i64_w, i32_w]
           rfl
          refine pure_ (i := 12) (N := some 93) (v := ?_) (a' := ?_) #[true, true, true, true, true, true, true, true, true, true, true, true, true] rfl rfl (any_of HT_.out oK) (fun _ _ _ h => h) (Or.inl ⟨by rfl, ?_⟩) ?_ ?_
          rotate_left
          ·intro w'
           go_simp
           with_reducible rfl
          rotate_left
          ·simp only [Act.put, List.setIfInBounds_toArray, List.set_cons_zero, List.set_cons_succ, i64_w, i32_w]
           rfl
          refine done_ (done_of HT_.out oK) ?_
          try go_wp2
          go_roundg k2
          case measure => have := HK1.out; have := HK2.out; omega
          case rel => exact ⟨(wrap64 (x8_2 + 1)), (by first | rfl | (simp; done) | (simp [*]; done)), H', ⟨(by have := HK1.out; have := HK2.out; omega)⟩, ⟨(oQ HO_625002)⟩, ⟨(by (with_reducible repeat (first | apply Kd.V_alloc | apply Kd.V_drewN | apply Kd.V_drew)); exact Kd.V_mono HO_639002.out (fun _ hk => ⟨hk.2.1, ⟨hk.2.2.1, ⟨hk.2.2.2.1, hk.2.2.2.2.1⟩⟩⟩))⟩, ⟨(oP BK624)⟩, ⟨(oP BK625)⟩, ⟨(oP BK629)⟩, ⟨(oP BK638)⟩, ⟨(oB HB)⟩⟩
        ·rw [if_neg c35] at H
         have c35b0 : decide (x8_2 < t614) = false := decide_eq_false c35
         clear c35
         have H' := Aside0.mk H
         clear H
         have hnb66 := NB624_625.out
         have hnc66 := NB625_624.out
         have hnb67 := NB624_629.out
         have hnc67 := NB629_624.out
         have hnb68 := NB624_638.out
         have hnc68 := NB638_624.out
         have hcz69_0 : wr.cell? ⟨gb624, 0, none⟩ = some (.int .i64 t614) := (blk_cell BK624.out 0).trans rfl
         have hcz69_1 : wr.cell? ⟨gb624, 1, none⟩ = some (.int .i64 t615) := (blk_cell BK624.out 1).trans rfl
         have hcz69_2 : wr.cell? ⟨gb624, 2, none⟩ = some (.slice Ao12 t616.length co12) := (blk_cell BK624.out 2).trans rfl
         have hfz69_0 := blk_frozen BK624.out 0
         have hfz69_1 := blk_frozen BK624.out 1
         have hfz69_2 := blk_frozen BK624.out 2
         go_wp2
         go_roundg k2
         case measure => have := HK1.out; have := HK2.out; omega
         case rel => exact ⟨(wrap64 (x7_1 + 1)), (by first | rfl | (simp; done) | (simp [*]; done)), H', ⟨(by have := HK1.out; have := HK2.out; omega)⟩, ⟨(oQ HO_625002)⟩, ⟨(oV HO_639002)⟩, ⟨(oP BK624)⟩, ⟨(oP BK625)⟩, ⟨(oP BK629)⟩, ⟨(oP BK638)⟩, ⟨(oB HB)⟩⟩
     ·rw [if_neg c30] at H
      have c30b0 : decide (x7_1 < t615) = false := decide_eq_false c30
      clear c30
      replace H := Option.bind_eq_some_iff.mp H
      obtain ⟨t639, A700, H⟩ := H
      (try dsimp only at H)
      have A70 := Aside0.mk A700
      clear A700
      obtain rfl := Option.some.inj H
      have hnb71 := NB624_625.out
      have hnc71 := NB625_624.out
      have hnb72 := NB624_629.out
      have hnc72 := NB629_624.out
      have hnb73 := NB624_638.out
      have hnc73 := NB638_624.out
      have hcz74_0 : wr.cell? ⟨gb624, 0, none⟩ = some (.int .i64 t614) := (blk_cell BK624.out 0).trans rfl
      have hcz74_1 : wr.cell? ⟨gb624, 1, none⟩ = some (.int .i64 t615) := (blk_cell BK624.out 1).trans rfl
      have hcz74_2 : wr.cell? ⟨gb624, 2, none⟩ = some (.slice Ao12 t616.length co12) := (blk_cell BK624.out 2).trans rfl
      have hfz74_0 := blk_frozen BK624.out 0
      have hfz74_1 := blk_frozen BK624.out 1
      have hfz74_2 := blk_frozen BK624.out 2
      have hnb75 := NB638_625.out
      have hnc75 := NB625_638.out
      have hnb76 := NB638_629.out
      have hnc76 := NB629_638.out
      have hcz77_0 : wr.cell? ⟨gb638, 0, none⟩ = some (.int .i64 t633) := (blk_cell BK638.out 0).trans rfl
      have hcz77_1 : wr.cell? ⟨gb638, 1, none⟩ = some (.int .i64 t634) := (blk_cell BK638.out 1).trans rfl
      have hcz77_2 : wr.cell? ⟨gb638, 2, none⟩ = some (.slice Ao29 t635.length co29) := (blk_cell BK638.out 2).trans rfl
      have hfz77_0 := blk_frozen BK638.out 0
      have hfz77_1 := blk_frozen BK638.out 1
      have hfz77_2 := blk_frozen BK638.out 2
      go_wp2_with (first | ((with_reducible refine gate_callee (f := 26) rfl ?_); refine goesL_ (some 95) rfl rfl Try.func26 oK rfl #[.agg #[.int .i64 t633, .int .i64 t634, .slice Ao29 t635.length co29]] rfl oA ?_; (with_reducible refine (impl_RasOk.calls k1 t633 t634 _ _ t635 t639 _ ?side1 ?side2 A70.out).mono ?_); (case side1 => repeat (first | exact (Kd.V_reads' HO_639002.out).2.2 | (with_reducible refine Kd.C_alloc ?_ _) | (with_reducible refine Kd.C_drewN ?_ _) | (with_reducible refine Kd.C_drew ?_))); (case side2 => exact (Kd.V_reads' HO_639002.out).2.1); rintro e w78 ⟨rfl, hb⟩; refine ⟨_, rfl, ?_⟩; have n_ := o2_ (blk_below (oP BK624) hb) (o2_ (blk_below (oP BK625) hb) (o1_ (below_step (oB HB) hb))); clear BK624 BK625 HB; obtain ⟨BK624, BK625, HB⟩ := n_; (try clear hb); (try clear hb2); (try clear hk); (try clear hi)))
      go_ret
      exact ⟨by first | rfl | (simp [errW_none, errW_some] <;> rfl) | (simp [*, errW_none, errW_some] <;> rfl), oB HB⟩
  ·replace c5 := Bool.eq_false_iff.mpr c5
   subst c5
   rw [if_neg (show ¬ (false = true) by decide)] at H
   replace H := Option.bind_eq_some_iff.mp H
   obtain ⟨t627, A790, H⟩ := H
   (try dsimp only at H)
   have A79 := Aside0.mk A790
   clear A790
   by_cases c80 : t627 = true
   ·subst c80
    rw [if_pos rfl] at H
    exact absurd H (by simp)
   ·replace c80 := Bool.eq_false_iff.mpr c80
    subst c80
    rw [if_neg (show ¬ (false = true) by decide)] at H
    replace H := Option.bind_eq_some_iff.mp H
    obtain ⟨t628, A810, H⟩ := H
    (try dsimp only at H)
    have A81 := Aside0.mk A810
    clear A810
    obtain rfl := Option.some.inj H
    go_enter Try.func6, Try.ntmps6
    go_wp2_with (first | ((with_reducible refine gate_callee (f := 18) rfl ?_); refine goesL_ (some 19) rfl rfl Try.func18 oK rfl #[.slice A0 l0.length c0] rfl oA ?_; (with_reducible refine (spec_DrawOpDo.calls k _ _ l0 t614 t615 t616 t619 t620 t621 t622 t623 _ ?side1 ?side2 A3.out).mono ?_); (case side1 => repeat (first | exact HR0.out | (with_reducible refine Kd.C_alloc ?_ _) | (with_reducible refine Kd.C_drewN ?_ _) | (with_reducible refine Kd.C_drew ?_))); (case side2 => exact HC0.out); rintro e w82 ⟨v617, rfl, ho0, hb⟩; refine ⟨_, rfl, ?_⟩; have n_ := o2_ (Kd.Q_lower ho0 (below_size (oB HB))) (o1_ (below_step (oB HB) hb)); clear HB; obtain ⟨HO618, HB⟩ := n_; (try clear hb); (try clear hb2); (try clear hk); (try clear hi); (try clear ho0)) | ((with_reducible refine gate_dst (N := 3) rfl ?_); refine box_event ?hg (N := 3) ?hd (cs := #[.int .i64 0, .int .i64 0, .slice none 0 0]) (t := 25) ?hr ?_; (case hd => rfl); (case hg => rfl); (case hr => first | (go_simp; done) | (go_simp; rfl)); intro gb624 hg w83 hbox hb; have n_ := o2_ (Kd.Q_below (oQ HO618) hb) (o2_ (below_step (oB HB) hb) (o2_ (hbox) (o2_ ((oG hg (below_size (oB HB)) : w.heap.size ≤ gb624)) (o1_ ((oG hg (below_size (oB HB)) : w.heap.size ≤ gb624)))))); clear HO618 HB; obtain ⟨HO618, HB, BK624, GW624, GE624⟩ := n_; clear hb hbox hg) | ((with_reducible refine gate_dst (N := 4) rfl ?_); refine box_event ?hg (N := 4) ?hd (cs := #[.int .i64 0, .int .i64 0, .int .i64 0, .int .i64 0, .int .i64 0]) (t := 27) ?hr ?_; (case hd => rfl); (case hg => rfl); (case hr => first | (go_simp; done) | (go_simp; rfl)); intro gb625 hg w84 hbox hb; have n_ := o2_ (Kd.Q_below (oQ HO618) hb) (o2_ (blk_below (oP BK624) hb) (o2_ (below_step (oB HB) hb) (o2_ (hbox) (o2_ ((oG hg (below_size (oB HB)) : w.heap.size ≤ gb625)) (o2_ ((oG hg (below_size (oB HB)) : w.heap.size ≤ gb625)) (o2_ ((oL hg (blk_lt (oP BK624)))) (o1_ ((oN hg (blk_lt (oP BK624))))))))))); clear HO618 BK624 HB; obtain ⟨HO618, BK624, HB, BK625, GW625, GE625, NB624_625, NB625_624⟩ := n_; clear hb hbox hg; have hnb85 := NB624_625.out; have hnc85 := NB625_624.out; have hcz86_0 : w84.cell? ⟨gb624, 0, none⟩ = some (.int .i64 0) := (blk_cell BK624.out 0).trans rfl; have hcz86_1 : w84.cell? ⟨gb624, 1, none⟩ = some (.int .i64 0) := (blk_cell BK624.out 1).trans rfl; have hcz86_2 : w84.cell? ⟨gb624, 2, none⟩ = some (.slice none 0 0) := (blk_cell BK624.out 2).trans rfl; have hfz86_0 := blk_frozen BK624.out 0; have hfz86_1 := blk_frozen BK624.out 1; have hfz86_2 := blk_frozen BK624.out 2; obtain ⟨Ao87, co87, eo87, _⟩ := Kd.Q_slice HO618.out; subst eo87; have hcz88_0 : w84.cell? ⟨gb625, 0, none⟩ = some (.int .i64 0) := (blk_cell BK625.out 0).trans rfl; have hcz88_1 : w84.cell? ⟨gb625, 1, none⟩ = some (.int .i64 0) := (blk_cell BK625.out 1).trans rfl; have hcz88_2 : w84.cell? ⟨gb625, 2, none⟩ = some (.int .i64 0) := (blk_cell BK625.out 2).trans rfl; have hcz88_3 : w84.cell? ⟨gb625, 3, none⟩ = some (.int .i64 0) := (blk_cell BK625.out 3).trans rfl; have hcz88_4 : w84.cell? ⟨gb625, 4, none⟩ = some (.int .i64 0) := (blk_cell BK625.out 4).trans rfl; have hfz88_0 := blk_frozen BK625.out 0; have hfz88_1 := blk_frozen BK625.out 1; have hfz88_2 := blk_frozen BK625.out 2; have hfz88_3 := blk_frozen BK625.out 3; have hfz88_4 := blk_frozen BK625.out 4) | ((with_reducible refine gate_callee (f := 24) rfl ?_); refine goesL_ (some 23) rfl rfl Try.func24 oK rfl #[.agg #[.int .i64 t614, .int .i64 t615, .slice Ao87 t616.length co87]] rfl oA ?_; (with_reducible refine (spec_RasOk.calls k t614 t615 _ _ t616 false _ ?side1 ?side2 A4.out).mono ?_); (case side1 => refine (Kd.Q_reads' (e := 38) (base := w.heap.size) (ok := fun k_ => True) (n := t616.length) (c := co87) ?_).2.2; exact (by (with_reducible repeat (first | apply Kd.Q_alloc | apply Kd.Q_drewN | apply Kd.Q_drew)); exact (Kd.Q_mono (Kd.Q_mono (Kd.Q_far (p := ⟨gb625, 4, none⟩) (Kd.Q_far (p := ⟨gb625, 3, none⟩) (Kd.Q_far (p := ⟨gb625, 2, none⟩) (Kd.Q_far (p := ⟨gb625, 1, none⟩) (Kd.Q_far (p := ⟨gb625, 0, none⟩) (Kd.Q_far (p := ⟨gb624, 2, none⟩) (Kd.Q_far (p := ⟨gb624, 1, none⟩) (Kd.Q_far (p := ⟨gb624, 0, none⟩) (Kd.Q_types (Kd.Q_types HO618.out BK624.out oD) BK625.out oD) (fun _ hk => hk.1.2) (.int .i64 t614)) (fun _ hk => hk.1.2) (.int .i64 t615)) (fun _ hk => hk.1.2) (.slice Ao87 t616.length co87)) (fun _ hk => hk.2) (.int .i64 t619)) (fun _ hk => hk.2) (.int .i64 t620)) (fun _ hk => hk.2) (.int .i64 t621)) (fun _ hk => hk.2) (.int .i64 t622)) (fun _ hk => hk.2) (.int .i64 t623)) (fun _ h_ => h_.1)) (fun _ h_ => h_.1)))); (case side2 => exact (Kd.Q_reads' HO618.out).2.1); rintro e w89 ⟨rfl, hb⟩; refine ⟨_, rfl, ?_⟩; have n_ := o2_ (Kd.Q_below (by (with_reducible repeat (first | apply Kd.Q_alloc | apply Kd.Q_drewN | apply Kd.Q_drew)); exact (Kd.Q_mono (Kd.Q_mono (Kd.Q_far (p := ⟨gb625, 4, none⟩) (Kd.Q_far (p := ⟨gb625, 3, none⟩) (Kd.Q_far (p := ⟨gb625, 2, none⟩) (Kd.Q_far (p := ⟨gb625, 1, none⟩) (Kd.Q_far (p := ⟨gb625, 0, none⟩) (Kd.Q_far (p := ⟨gb624, 2, none⟩) (Kd.Q_far (p := ⟨gb624, 1, none⟩) (Kd.Q_far (p := ⟨gb624, 0, none⟩) (Kd.Q_types (Kd.Q_types HO618.out BK624.out oD) BK625.out oD) (fun _ hk => hk.1.2) (.int .i64 t614)) (fun _ hk => hk.1.2) (.int .i64 t615)) (fun _ hk => hk.1.2) (.slice Ao87 t616.length co87)) (fun _ hk => hk.2) (.int .i64 t619)) (fun _ hk => hk.2) (.int .i64 t620)) (fun _ hk => hk.2) (.int .i64 t621)) (fun _ hk => hk.2) (.int .i64 t622)) (fun _ hk => hk.2) (.int .i64 t623)) (fun _ h_ => h_.1)) (fun _ h_ => h_.1))) hb) (o2_ (blk_below (g := gb624) (o := .cells #[.int .i64 t614, .int .i64 t615, .slice Ao87 t616.length co87] 25 (0, 0)) (by (with_reducible repeat (first | refine blk_drewN ?_ _ | refine blk_drew ?_ | refine blk_alloc ?_ _)); refine blk_far ?_ NB624_625.out _; (with_reducible repeat (first | refine blk_drewN ?_ _ | refine blk_drew ?_ | refine blk_alloc ?_ _)); refine blk_far ?_ NB624_625.out _; (with_reducible repeat (first | refine blk_drewN ?_ _ | refine blk_drew ?_ | refine blk_alloc ?_ _)); refine blk_far ?_ NB624_625.out _; (with_reducible repeat (first | refine blk_drewN ?_ _ | refine blk_drew ?_ | refine blk_alloc ?_ _)); refine blk_far ?_ NB624_625.out _; (with_reducible repeat (first | refine blk_drewN ?_ _ | refine blk_drew ?_ | refine blk_alloc ?_ _)); refine blk_far ?_ NB624_625.out _; (with_reducible repeat (first | refine blk_drewN ?_ _ | refine blk_drew ?_ | refine blk_alloc ?_ _)); refine blk_put (cs := #[.int .i64 t614, .int .i64 t615, .slice none 0 0]) ?_ 2 _ rfl; (with_reducible repeat (first | refine blk_drewN ?_ _ | refine blk_drew ?_ | refine blk_alloc ?_ _)); refine blk_put (cs := #[.int .i64 t614, .int .i64 0, .slice none 0 0]) ?_ 1 _ rfl; (with_reducible repeat (first | refine blk_drewN ?_ _ | refine blk_drew ?_ | refine blk_alloc ?_ _)); refine blk_put (cs := #[.int .i64 0, .int .i64 0, .slice none 0 0]) ?_ 0 _ rfl; (with_reducible repeat (first | refine blk_drewN ?_ _ | refine blk_drew ?_ | refine blk_alloc ?_ _)); exact BK624.out) hb) (o1_ (below_step (oB HB) hb))); clear HO618 BK624 HB; obtain ⟨HO618, BK624, HB⟩ := n_; (try clear hb); (try clear hb2); (try clear hk); (try clear hi); have hcz90_0 : w89.cell? ⟨gb624, 0, none⟩ = some (.int .i64 t614) := (blk_cell BK624.out 0).trans rfl; have hcz90_1 : w89.cell? ⟨gb624, 1, none⟩ = some (.int .i64 t615) := (blk_cell BK624.out 1).trans rfl; have hcz90_2 : w89.cell? ⟨gb624, 2, none⟩ = some (.slice Ao87 t616.length co87) := (blk_cell BK624.out 2).trans rfl; have hfz90_0 := blk_frozen BK624.out 0; have hfz90_1 := blk_frozen BK624.out 1; have hfz90_2 := blk_frozen BK624.out 2) | ((with_reducible refine gate_callee (f := 26) rfl ?_); refine goesL_ (some 26) rfl rfl Try.func26 oK rfl #[.agg #[.int .i64 t614, .int .i64 t615, .slice Ao87 t616.length co87]] rfl oA ?_; (with_reducible refine (impl_RasOk.calls k t614 t615 _ _ t616 false _ ?side1 ?side2 A79.out).mono ?_); (case side1 => repeat (first | exact (Kd.Q_reads' HO618.out).2.2 | (with_reducible refine Kd.C_alloc ?_ _) | (with_reducible refine Kd.C_drewN ?_ _) | (with_reducible refine Kd.C_drew ?_))); (case side2 => exact (Kd.Q_reads' HO618.out).2.1); rintro e w91 ⟨rfl, hb⟩; refine ⟨_, rfl, ?_⟩; replace HB := o1_ (below_step (oB HB) hb); (try clear hb); (try clear hb2); (try clear hk); (try clear hi)) | (go_at_call 25; (with_reducible refine (laws_eaOk.calls  t628 _ A81.out).mono ?_); rintro e w92 ⟨rfl, hb⟩; replace HB := o1_ (below_step (oB HB) hb); (try clear hb); (try clear hb2); (try clear hk); (try clear hi)))
    go_ret
    exact ⟨by first | rfl | (simp [errW_none, errW_some] <;> rfl) | (simp [*, errW_none, errW_some] <;> rfl), oB HB⟩

/-- THE ONE PURE STATEMENT of laws_FnOpBlurIn: yours. -/
def laws_FnOpBlurIn.Pure : Prop := ∀ (l0 : List Int), l0.length ≤ maxLen → l0.length * 1 ≤ 140737488351232 → (∀ x ∈ l0, (Lit.int .u8 x).wf = true) → ∃ k, laws_FnOpBlurIn.f k l0 = some true
theorem laws_FnOpBlurIn.walk (P : laws_FnOpBlurIn.Pure) (a0 : Option Addr) (len0 cap0 : Nat) (z0 : List Int) (w : World) (w0 : (a0 = none ∧ len0 = 0 ∧ cap0 = 0 ∧ z0 = []) ∨ ∃ x, a0 = some x ∧ len0 ≤ cap0 ∧ cap0 ≤ maxLen ∧ z0.length = cap0 ∧ (∀ i, i < z0.length → w.cell? (x.add i) = some (.int .u8 (z0.getD i 0))) ∧ ∀ n ∈ z0, (Lit.int .u8 n).wf = true) (y0 : len0 * 1 ≤ 140737488351232) :
  Calls Try.prog 6 #[.slice a0 len0 cap0] w fun e w' => e = .returned (.bool true) ∧ Below w.heap.size w w' := by
 obtain ⟨l0, rfl, hr0, hm0, hw0, hc0⟩ := ReadsInt.ofRowC w0
 obtain ⟨k, h⟩ := P l0 hm0 y0 hw0
 refine (laws_FnOpBlurIn.calls k _ _ l0 true w (Kd.C_of_reads (d := (0 : Int)) (h1 := fun _ => rfl) hr0) hc0 h).mono ?_
 rintro e w' ⟨rfl, hd⟩
 exact ⟨rfl, hd⟩

end Go.Proofs.Ythnmeogafklhnaa.X
