/- Functions of the given program as plain Lean functions, and for each the proof that the machine's call comes to what its function says. No condition but what each theorem states. Written by a program of this session. -/
import Derived.Test.YtmkiajoanblkbaaX0
import Derived.Test.YtmkiajoanblkbaaX2
import Derived.Test.YtmkiajoanblkbaaX23
import Derived.Test.YtmkiajoanblkbaaX31
import Derived.Test.YtmkiajoanblkbaaX50
import Derived.Test.YtmkiajoanblkbaaX53
import Derived.Test.YtmkiajoanblkbaaX54
import Derived.Test.YtmkiajoanblkbaaX55
namespace Go.Proofs.Ytmkiajoanblkbaa.X
open Go.RowKit Go.Proofs.YtmkiajoanblkbaaW.PrintWords Go.Proofs.YtmkiajoanblkbaaW.PrintLast Go.Proofs.YtmkiajoanblkbaaW.PrintMore
attribute [local go_sem] max2_int min2_int max_two min_two max_three min_three max_four min_four   -- for this text's walks alone
set_option linter.unusedVariables false
set_option linter.unusedSimpArgs false

attribute [local go_sem high] eqA39
/-! ### laws_FnRasAt: function 8 -/
mutual
def laws_FnRasAt.j0 : Nat → Bool → Int → Int → List (S39) → Int → Int → Int → Int → Option (Bool)
 | 0, _, _, _, _, _, _, _, _ => none
 | k + 1, x51, x595000, x595001, x595002, x600000, x600001, x600002, x600003 => if x51 = true then (if (x600000 == 0 && (x600001 == 0 && (x600002 == 0 && (x600003 == 0)))) = true then ((laws_eaOk.f).bind fun t605 => (some t605)) else (none)) else (laws_FnRasAt.l0 k (([] : List (S39))) 0 x595000 x595001 x595002)
def laws_FnRasAt.l0 : Nat → List (S39) → Int → Int → Int → List (S39) → Option (Bool)
 | 0, _, _, _, _, _ => none
 | k + 1, x7, x8, x595000, x595001, x595002 => if x8 < x595001 then (laws_FnRasAt.l1 k x7 x8 0 x595000 x595001 x595002) else ((laws_eaRas.f k x595000 x595001 x7 x595000 x595001 x595002).bind fun t609 => (some t609))
def laws_FnRasAt.l1 : Nat → List (S39) → Int → Int → Int → Int → List (S39) → Option (Bool)
 | 0, _, _, _, _, _, _ => none
 | k + 1, x7, x8, x9, x595000, x595001, x595002 => if x9 < x595000 then ((impl_RasAt.f k x595000 x595001 x595002 x9 x8).bind fun bt610 => (if x7.length < 4398046511104 then (laws_FnRasAt.l1 k (x7 ++ [(⟨bt610.1, bt610.2.1, bt610.2.2.1, bt610.2.2.2⟩ : S39)]) x8 (wrap64 (x9 + 1)) x595000 x595001 x595002) else (none))) else (laws_FnRasAt.l0 k x7 (wrap64 (x8 + 1)) x595000 x595001 x595002)
end
def laws_FnRasAt.f (k : Nat) (l0 : List Int) : Option (Bool) := if (l0.length : Int) > 1048576 then (some true) else ((spec_DrawRasAt.f k l0).bind fun bt587 => ((impl_RasAt.f k bt587.1 bt587.2.1 bt587.2.2.1 bt587.2.2.2.1 bt587.2.2.2.2).bind fun bt595 => ((spec_RasAt.f k bt587.1 bt587.2.1 bt587.2.2.1 bt587.2.2.2.1 bt587.2.2.2.2).bind fun bt600 => (if (!(bt595.1 == bt600.1) || (!(bt595.2.1 == bt600.2.1) || (!(bt595.2.2.1 == bt600.2.2.1) || (!(bt595.2.2.2 == bt600.2.2.2))))) = true then (none) else ((spec_RasOk.f k bt587.1 bt587.2.1 bt587.2.2.1).bind fun t604 => (if t604 = true then (if bt587.2.2.2.1 < 0 then (laws_FnRasAt.j0 k true bt587.1 bt587.2.1 bt587.2.2.1 bt595.1 bt595.2.1 bt595.2.2.1 bt595.2.2.2) else (if bt587.2.2.2.1 ≥ bt587.1 then (laws_FnRasAt.j0 k true bt587.1 bt587.2.1 bt587.2.2.1 bt595.1 bt595.2.1 bt595.2.2.1 bt595.2.2.2) else (if bt587.2.2.2.2 < 0 then (laws_FnRasAt.j0 k true bt587.1 bt587.2.1 bt587.2.2.1 bt595.1 bt595.2.1 bt595.2.2.1 bt595.2.2.2) else (laws_FnRasAt.j0 k (decide (bt587.2.2.2.2 ≥ bt587.2.1)) bt587.1 bt587.2.1 bt587.2.2.1 bt595.1 bt595.2.1 bt595.2.2.1 bt595.2.2.2)))) else (laws_FnRasAt.j0 k true bt587.1 bt587.2.1 bt587.2.2.1 bt595.1 bt595.2.1 bt595.2.2.1 bt595.2.2.2)))))))
theorem laws_FnRasAt.mono_l : ∀ k, (∀ y0 y1 y2 y3 y4 y5 y6 y7, LeO (laws_FnRasAt.j0 k y0 y1 y2 y3 y4 y5 y6 y7) (laws_FnRasAt.j0 (k + 1) y0 y1 y2 y3 y4 y5 y6 y7)) ∧ (∀ y0 y1 y2 y3 y4, LeO (laws_FnRasAt.l0 k y0 y1 y2 y3 y4) (laws_FnRasAt.l0 (k + 1) y0 y1 y2 y3 y4)) ∧ (∀ y0 y1 y2 y3 y4 y5, LeO (laws_FnRasAt.l1 k y0 y1 y2 y3 y4 y5) (laws_FnRasAt.l1 (k + 1) y0 y1 y2 y3 y4 y5))
 | 0 => ⟨(fun _ _ _ _ _ _ _ _ r h => nomatch (show none = some r from h)), (fun _ _ _ _ _ r h => nomatch (show none = some r from h)), (fun _ _ _ _ _ _ r h => nomatch (show none = some r from h))⟩
 | k + 1 => by
  obtain ⟨ih0, ih1, ih2⟩ := laws_FnRasAt.mono_l k
  refine ⟨?_, ?_, ?_⟩
  ·intro y0 y1 y2 y3 y4 y5 y6 y7
   unfold laws_FnRasAt.j0
   repeat' first
   | (with_reducible exact ih0 _ _ _ _ _ _ _ _)
   | (with_reducible exact ih1 _ _ _ _ _)
   | (with_reducible exact ih2 _ _ _ _ _ _)
   | (with_reducible exact impl_RasAt.mono _ _ _ _ _ _)
   | (with_reducible exact laws_eaRas.mono _ _ _ _ _ _ _)
   | (with_reducible exact spec_DrawRasAt.mono _ _)
   | (with_reducible exact spec_RasAt.mono _ _ _ _ _ _)
   | (with_reducible exact spec_RasOk.mono _ _ _ _)
   | (with_reducible exact LeO.refl _)
   | (with_reducible exact LeO.none _)
   | (with_reducible refine LeO.ite ?_ ?_)
   | (with_reducible refine LeO.bind ?_ (fun _ => ?_))
   | exact ih0 _ _ _ _ _ _ _ _
   | exact ih1 _ _ _ _ _
   | exact ih2 _ _ _ _ _ _
   | exact impl_RasAt.mono _ _ _ _ _ _
   | exact laws_eaRas.mono _ _ _ _ _ _ _
   | exact spec_DrawRasAt.mono _ _
   | exact spec_RasAt.mono _ _ _ _ _ _
   | exact spec_RasOk.mono _ _ _ _
   | exact LeO.none _
   | refine LeO.ite ?_ ?_
   | refine LeO.bind ?_ (fun _ => ?_)
  ·intro y0 y1 y2 y3 y4
   unfold laws_FnRasAt.l0
   repeat' first
   | (with_reducible exact ih0 _ _ _ _ _ _ _ _)
   | (with_reducible exact ih1 _ _ _ _ _)
   | (with_reducible exact ih2 _ _ _ _ _ _)
   | (with_reducible exact impl_RasAt.mono _ _ _ _ _ _)
   | (with_reducible exact laws_eaRas.mono _ _ _ _ _ _ _)
   | (with_reducible exact spec_DrawRasAt.mono _ _)
   | (with_reducible exact spec_RasAt.mono _ _ _ _ _ _)
   | (with_reducible exact spec_RasOk.mono _ _ _ _)
   | (with_reducible exact LeO.refl _)
   | (with_reducible exact LeO.none _)
   | (with_reducible refine LeO.ite ?_ ?_)
   | (with_reducible refine LeO.bind ?_ (fun _ => ?_))
   | exact ih0 _ _ _ _ _ _ _ _
   | exact ih1 _ _ _ _ _
   | exact ih2 _ _ _ _ _ _
   | exact impl_RasAt.mono _ _ _ _ _ _
   | exact laws_eaRas.mono _ _ _ _ _ _ _
   | exact spec_DrawRasAt.mono _ _
   | exact spec_RasAt.mono _ _ _ _ _ _
   | exact spec_RasOk.mono _ _ _ _
   | exact LeO.none _
   | refine LeO.ite ?_ ?_
   | refine LeO.bind ?_ (fun _ => ?_)
  ·intro y0 y1 y2 y3 y4 y5
   unfold laws_FnRasAt.l1
   repeat' first
   | (with_reducible exact ih0 _ _ _ _ _ _ _ _)
   | (with_reducible exact ih1 _ _ _ _ _)
   | (with_reducible exact ih2 _ _ _ _ _ _)
   | (with_reducible exact impl_RasAt.mono _ _ _ _ _ _)
   | (with_reducible exact laws_eaRas.mono _ _ _ _ _ _ _)
   | (with_reducible exact spec_DrawRasAt.mono _ _)
   | (with_reducible exact spec_RasAt.mono _ _ _ _ _ _)
   | (with_reducible exact spec_RasOk.mono _ _ _ _)
   | (with_reducible exact LeO.refl _)
   | (with_reducible exact LeO.none _)
   | (with_reducible refine LeO.ite ?_ ?_)
   | (with_reducible refine LeO.bind ?_ (fun _ => ?_))
   | exact ih0 _ _ _ _ _ _ _ _
   | exact ih1 _ _ _ _ _
   | exact ih2 _ _ _ _ _ _
   | exact impl_RasAt.mono _ _ _ _ _ _
   | exact laws_eaRas.mono _ _ _ _ _ _ _
   | exact spec_DrawRasAt.mono _ _
   | exact spec_RasAt.mono _ _ _ _ _ _
   | exact spec_RasOk.mono _ _ _ _
   | exact LeO.none _
   | refine LeO.ite ?_ ?_
   | refine LeO.bind ?_ (fun _ => ?_)
theorem laws_FnRasAt.mono : ∀ a0 k, LeO (laws_FnRasAt.f k a0) (laws_FnRasAt.f (k + 1) a0) := by
 intro a0 k
 obtain ⟨ih0, ih1, ih2⟩ := laws_FnRasAt.mono_l k
 unfold laws_FnRasAt.f
 repeat' first
   | (with_reducible exact ih0 _ _ _ _ _ _ _ _)
   | (with_reducible exact ih1 _ _ _ _ _)
   | (with_reducible exact ih2 _ _ _ _ _ _)
   | (with_reducible exact impl_RasAt.mono _ _ _ _ _ _)
   | (with_reducible exact laws_eaRas.mono _ _ _ _ _ _ _)
   | (with_reducible exact spec_DrawRasAt.mono _ _)
   | (with_reducible exact spec_RasAt.mono _ _ _ _ _ _)
   | (with_reducible exact spec_RasOk.mono _ _ _ _)
   | (with_reducible exact LeO.refl _)
   | (with_reducible exact LeO.none _)
   | (with_reducible refine LeO.ite ?_ ?_)
   | (with_reducible refine LeO.bind ?_ (fun _ => ?_))
   | exact ih0 _ _ _ _ _ _ _ _
   | exact ih1 _ _ _ _ _
   | exact ih2 _ _ _ _ _ _
   | exact impl_RasAt.mono _ _ _ _ _ _
   | exact laws_eaRas.mono _ _ _ _ _ _ _
   | exact spec_DrawRasAt.mono _ _
   | exact spec_RasAt.mono _ _ _ _ _ _
   | exact spec_RasOk.mono _ _ _ _
   | exact LeO.none _
   | refine LeO.ite ?_ ?_
   | refine LeO.bind ?_ (fun _ => ?_)
set_option maxHeartbeats 8000000 in
set_option maxRecDepth 100000 in
theorem laws_FnRasAt.calls (k : Nat) (A0 : Option Addr) (c0 : Nat) (l0 : List Int) (r : Bool) (w : World) (hr0 : Kd.C (Kd.int .u8) w A0 l0.length l0) (hc0 : l0.length ≤ c0) (h : laws_FnRasAt.f k l0 = some r) :
  Calls Try.prog 8 #[.slice A0 l0.length c0] w fun e w' => e = .returned (.bool r) ∧ Below w.heap.size w w' := by
 have hu36 := Try.underlying36
 have hu39 := Try.underlying39
 have HR0 := Aside0.mk hr0
 have HC0 := Aside0.mk hc0
 clear hr0 hc0
 have HB := Aside0.mk (Below.refl w.heap.size w)
 have H : (if (l0.length : Int) > 1048576 then (some true) else ((spec_DrawRasAt.f k l0).bind fun bt587 => ((impl_RasAt.f k bt587.1 bt587.2.1 bt587.2.2.1 bt587.2.2.2.1 bt587.2.2.2.2).bind fun bt595 => ((spec_RasAt.f k bt587.1 bt587.2.1 bt587.2.2.1 bt587.2.2.2.1 bt587.2.2.2.2).bind fun bt600 => (if (!(bt595.1 == bt600.1) || (!(bt595.2.1 == bt600.2.1) || (!(bt595.2.2.1 == bt600.2.2.1) || (!(bt595.2.2.2 == bt600.2.2.2))))) = true then (none) else ((spec_RasOk.f k bt587.1 bt587.2.1 bt587.2.2.1).bind fun t604 => (if t604 = true then (if bt587.2.2.2.1 < 0 then (laws_FnRasAt.j0 k true bt587.1 bt587.2.1 bt587.2.2.1 bt595.1 bt595.2.1 bt595.2.2.1 bt595.2.2.2) else (if bt587.2.2.2.1 ≥ bt587.1 then (laws_FnRasAt.j0 k true bt587.1 bt587.2.1 bt587.2.2.1 bt595.1 bt595.2.1 bt595.2.2.1 bt595.2.2.2) else (if bt587.2.2.2.2 < 0 then (laws_FnRasAt.j0 k true bt587.1 bt587.2.1 bt587.2.2.1 bt595.1 bt595.2.1 bt595.2.2.1 bt595.2.2.2) else (laws_FnRasAt.j0 k (decide (bt587.2.2.2.2 ≥ bt587.2.1)) bt587.1 bt587.2.1 bt587.2.2.1 bt595.1 bt595.2.1 bt595.2.2.1 bt595.2.2.2)))) else (laws_FnRasAt.j0 k true bt587.1 bt587.2.1 bt587.2.2.1 bt595.1 bt595.2.1 bt595.2.2.1 bt595.2.2.2)))))))) = some r := h
 clear h
 by_cases c2 : (l0.length : Int) > 1048576
 ·rw [if_pos c2] at H
  have c2b0 : decide (1048576 < (l0.length : Int)) = true := decide_eq_true c2
  have c2b1 : decide (1048576 < l0.length) = true := decide_eq_true (by omega)
  clear c2
  obtain rfl := Option.some.inj H
  go_enter Try.func8, Try.ntmps8
  go_wp2
  go_ret
  exact ⟨by first | rfl | (simp [errW_none, errW_some] <;> rfl) | (simp [*, errW_none, errW_some] <;> rfl), by repeat (first | (with_reducible first | exact HB.out | apply below_alloc | apply pw_below_drewN | apply below_drew1) | exact HB.out)⟩
 ·rw [if_neg c2] at H
  have c2b0 : decide (1048576 < (l0.length : Int)) = false := decide_eq_false c2
  have c2b1 : decide (1048576 < l0.length) = false := decide_eq_false (by omega)
  clear c2
  replace H := Option.bind_eq_some_iff.mp H
  obtain ⟨⟨t587, t588, t589, t592, t593⟩, A30, H⟩ := H
  replace H : ((impl_RasAt.f k t587 t588 t589 t592 t593).bind fun bt595 => ((spec_RasAt.f k t587 t588 t589 t592 t593).bind fun bt600 => (if (!(bt595.1 == bt600.1) || (!(bt595.2.1 == bt600.2.1) || (!(bt595.2.2.1 == bt600.2.2.1) || (!(bt595.2.2.2 == bt600.2.2.2))))) = true then (none) else ((spec_RasOk.f k t587 t588 t589).bind fun t604 => (if t604 = true then (if t592 < 0 then (laws_FnRasAt.j0 k true t587 t588 t589 bt595.1 bt595.2.1 bt595.2.2.1 bt595.2.2.2) else (if t592 ≥ t587 then (laws_FnRasAt.j0 k true t587 t588 t589 bt595.1 bt595.2.1 bt595.2.2.1 bt595.2.2.2) else (if t593 < 0 then (laws_FnRasAt.j0 k true t587 t588 t589 bt595.1 bt595.2.1 bt595.2.2.1 bt595.2.2.2) else (laws_FnRasAt.j0 k (decide (t593 ≥ t588)) t587 t588 t589 bt595.1 bt595.2.1 bt595.2.2.1 bt595.2.2.2)))) else (laws_FnRasAt.j0 k true t587 t588 t589 bt595.1 bt595.2.1 bt595.2.2.1 bt595.2.2.2)))))) = some r := H
  have A3 := Aside0.mk A30
  clear A30
  replace H := Option.bind_eq_some_iff.mp H
  obtain ⟨⟨t595, t596, t597, t598⟩, A40, H⟩ := H
  replace H : ((spec_RasAt.f k t587 t588 t589 t592 t593).bind fun bt600 => (if (!(t595 == bt600.1) || (!(t596 == bt600.2.1) || (!(t597 == bt600.2.2.1) || (!(t598 == bt600.2.2.2))))) = true then (none) else ((spec_RasOk.f k t587 t588 t589).bind fun t604 => (if t604 = true then (if t592 < 0 then (laws_FnRasAt.j0 k true t587 t588 t589 t595 t596 t597 t598) else (if t592 ≥ t587 then (laws_FnRasAt.j0 k true t587 t588 t589 t595 t596 t597 t598) else (if t593 < 0 then (laws_FnRasAt.j0 k true t587 t588 t589 t595 t596 t597 t598) else (laws_FnRasAt.j0 k (decide (t593 ≥ t588)) t587 t588 t589 t595 t596 t597 t598)))) else (laws_FnRasAt.j0 k true t587 t588 t589 t595 t596 t597 t598))))) = some r := H
  have A4 := Aside0.mk A40
  clear A40
  replace H := Option.bind_eq_some_iff.mp H
  obtain ⟨⟨t600, t601, t602, t603⟩, A50, H⟩ := H
  replace H : (if (!(t595 == t600) || (!(t596 == t601) || (!(t597 == t602) || (!(t598 == t603))))) = true then (none) else ((spec_RasOk.f k t587 t588 t589).bind fun t604 => (if t604 = true then (if t592 < 0 then (laws_FnRasAt.j0 k true t587 t588 t589 t595 t596 t597 t598) else (if t592 ≥ t587 then (laws_FnRasAt.j0 k true t587 t588 t589 t595 t596 t597 t598) else (if t593 < 0 then (laws_FnRasAt.j0 k true t587 t588 t589 t595 t596 t597 t598) else (laws_FnRasAt.j0 k (decide (t593 ≥ t588)) t587 t588 t589 t595 t596 t597 t598)))) else (laws_FnRasAt.j0 k true t587 t588 t589 t595 t596 t597 t598)))) = some r := H
  have A5 := Aside0.mk A50
  clear A50
  by_cases c6 : (!(t595 == t600) || (!(t596 == t601) || (!(t597 == t602) || (!(t598 == t603))))) = true
  ·rw [if_pos c6] at H
   exact absurd H (by simp)
  ·rw [if_neg c6] at H
   have c6b0 : (!(t595 == t600) || (!(t596 == t601) || (!(t597 == t602) || (!(t598 == t603))))) = false := by simpa using c6
   clear c6
   have HC7 := Aside0.mk H
   clear H
   go_enter Try.func8, Try.ntmps8
   try go_wp2_with (first | ((with_reducible refine gate_callee (f := 34) rfl ?_); refine goesL_ (some 15) rfl rfl Try.func34 (by kernel_rfl) rfl #[.slice A0 l0.length c0] rfl (by (try simp only [List.map_toArray, List.map_cons, List.map_nil]); first | done | rfl | (simp only [List.length_drop, List.length_take]; rfl)) ?_; (with_reducible refine (spec_DrawRasAt.calls k _ _ l0 t587 t588 t589 t592 t593 _ ?side1 ?side2 A3.out).mono ?_); (case side1 => repeat (first | exact HR0.out | (with_reducible refine Kd.C_alloc ?_ _) | (with_reducible refine Kd.C_drewN ?_ _) | (with_reducible refine Kd.C_drew ?_))); (case side2 => exact HC0.out); rintro e w8 ⟨v590, rfl, ho0, hb⟩; refine ⟨_, rfl, ?_⟩; have n0_ := Aside0.mk (Kd.Q_lower ho0 (below_size (by repeat (first | (with_reducible first | exact HB.out | apply below_alloc | apply pw_below_drewN | apply below_drew1) | exact HB.out)))); have n1_ := Aside0.mk (below_step (by repeat (first | (with_reducible first | exact HB.out | apply below_alloc | apply pw_below_drewN | apply below_drew1) | exact HB.out)) hb); clear HB; have HO591 := n0_; have HB := n1_; clear n0_ n1_; (try clear hb); (try clear hb2); (try clear hk); (try clear hi); (try clear ho0)) | ((with_reducible refine gate_dst (N := 3) rfl ?_); refine box_event ?hg (N := 3) ?hd (cs := #[.int .i64 0, .int .i64 0, .slice none 0 0]) (t := 36) ?hr ?_; (case hd => rfl); (case hg => rfl); (case hr => first | (go_simp; done) | (go_simp; rfl)); intro gb594 hg w9 hbox hb; have n0_ := Aside0.mk (Kd.Q_below (by (with_reducible repeat (first | apply Kd.Q_alloc | apply Kd.Q_drewN | apply Kd.Q_drew)); exact HO591.out) hb); have n1_ := Aside0.mk (below_step (by repeat (first | (with_reducible first | exact HB.out | apply below_alloc | apply pw_below_drewN | apply below_drew1) | exact HB.out)) hb); have n2_ := Aside0.mk (hbox); have n3_ := Aside0.mk ((by rw [hg]; exact (below_size (by repeat (first | (with_reducible first | exact HB.out | apply below_alloc | apply pw_below_drewN | apply below_drew1) | exact HB.out))) : w.heap.size ≤ gb594)); have n4_ := Aside0.mk ((by rw [hg]; exact (below_size (by repeat (first | (with_reducible first | exact HB.out | apply below_alloc | apply pw_below_drewN | apply below_drew1) | exact HB.out))) : w.heap.size ≤ gb594)); clear HO591; clear HB; have HO591 := n0_; have HB := n1_; have BK594 := n2_; have GW594 := n3_; have GE594 := n4_; clear n0_ n1_ n2_ n3_ n4_; clear hb hbox hg; have hcz10_0 : w9.cell? ⟨gb594, 0, none⟩ = some (.int .i64 0) := (blk_cell BK594.out 0).trans rfl; have hcz10_1 : w9.cell? ⟨gb594, 1, none⟩ = some (.int .i64 0) := (blk_cell BK594.out 1).trans rfl; have hcz10_2 : w9.cell? ⟨gb594, 2, none⟩ = some (.slice none 0 0) := (blk_cell BK594.out 2).trans rfl; have hfz10_0 := blk_frozen BK594.out 0; have hfz10_1 := blk_frozen BK594.out 1; have hfz10_2 := blk_frozen BK594.out 2; obtain ⟨Ao11, co11, eo11, _⟩ := Kd.Q_slice HO591.out; subst eo11) | ((with_reducible refine gate_callee (f := 35) rfl ?_); refine goesL_ (some 22) rfl rfl Try.func35 (by kernel_rfl) rfl #[.agg #[.int .i64 t587, .int .i64 t588, .slice Ao11 t589.length co11], .int .i64 t592, .int .i64 t593] rfl (by (try simp only [List.map_toArray, List.map_cons, List.map_nil]); first | done | rfl | (simp only [List.length_drop, List.length_take]; rfl)) ?_; (with_reducible refine (impl_RasAt.calls k t587 t588 _ _ t589 t592 t593 t595 t596 t597 t598 _ ?side1 ?side2 A4.out).mono ?_); (case side1 => refine (Kd.Q_reads' (e := 39) (base := w.heap.size) (ok := fun k_ => True) (n := t589.length) (c := co11) ?_).2.2; exact (by (with_reducible repeat (first | apply Kd.Q_alloc | apply Kd.Q_drewN | apply Kd.Q_drew)); exact (Kd.Q_mono (Kd.Q_far (p := ⟨gb594, 2, none⟩) (Kd.Q_far (p := ⟨gb594, 1, none⟩) (Kd.Q_far (p := ⟨gb594, 0, none⟩) (Kd.Q_types HO591.out BK594.out (by decide)) (fun _ hk => hk.2) (.int .i64 t587)) (fun _ hk => hk.2) (.int .i64 t588)) (fun _ hk => hk.2) (.slice Ao11 t589.length co11)) (fun _ h_ => h_.1)))); (case side2 => exact (Kd.Q_reads' HO591.out).2.1); rintro e w12 ⟨rfl, hb⟩; refine ⟨_, rfl, ?_⟩; have n0_ := Aside0.mk (Kd.Q_below (by (with_reducible repeat (first | apply Kd.Q_alloc | apply Kd.Q_drewN | apply Kd.Q_drew)); exact (Kd.Q_mono (Kd.Q_far (p := ⟨gb594, 2, none⟩) (Kd.Q_far (p := ⟨gb594, 1, none⟩) (Kd.Q_far (p := ⟨gb594, 0, none⟩) (Kd.Q_types HO591.out BK594.out (by decide)) (fun _ hk => hk.2) (.int .i64 t587)) (fun _ hk => hk.2) (.int .i64 t588)) (fun _ hk => hk.2) (.slice Ao11 t589.length co11)) (fun _ h_ => h_.1))) hb); have n1_ := Aside0.mk (blk_below (g := gb594) (o := .cells #[.int .i64 t587, .int .i64 t588, .slice Ao11 t589.length co11] 36 (0, 0)) (by (with_reducible repeat (first | refine blk_drewN ?_ _ | refine blk_drew ?_ | refine blk_alloc ?_ _)); refine blk_put (cs := #[.int .i64 t587, .int .i64 t588, .slice none 0 0]) ?_ 2 _ rfl; (with_reducible repeat (first | refine blk_drewN ?_ _ | refine blk_drew ?_ | refine blk_alloc ?_ _)); refine blk_put (cs := #[.int .i64 t587, .int .i64 0, .slice none 0 0]) ?_ 1 _ rfl; (with_reducible repeat (first | refine blk_drewN ?_ _ | refine blk_drew ?_ | refine blk_alloc ?_ _)); refine blk_put (cs := #[.int .i64 0, .int .i64 0, .slice none 0 0]) ?_ 0 _ rfl; (with_reducible repeat (first | refine blk_drewN ?_ _ | refine blk_drew ?_ | refine blk_alloc ?_ _)); exact BK594.out) hb); have n2_ := Aside0.mk (below_step (by repeat (first | (with_reducible first | exact HB.out | apply below_alloc | apply pw_below_drewN | apply below_drew1 | refine below_set ?_ GE594.out) | exact HB.out)) hb); clear HO591; clear BK594; clear HB; have HO591 := n0_; have BK594 := n1_; have HB := n2_; clear n0_ n1_ n2_; (try clear hb); (try clear hb2); (try clear hk); (try clear hi)) | ((with_reducible refine gate_dst (N := 6) rfl ?_); refine box_event ?hg (N := 6) ?hd (cs := #[.int .i64 0, .int .i64 0, .int .i64 0, .int .i64 0]) (t := 39) ?hr ?_; (case hd => rfl); (case hg => rfl); (case hr => first | (go_simp; done) | (go_simp; rfl)); intro gb599 hg w13 hbox hb; have n0_ := Aside0.mk (Kd.Q_below (Kd.Q_elderB (by (with_reducible repeat (first | apply Kd.Q_alloc | apply Kd.Q_drewN | apply Kd.Q_drew)); exact HO591.out) gb599 (Nat.le_of_eq hg.symm)) hb); have n1_ := Aside0.mk (blk_below (g := gb594) (o := .cells #[.int .i64 t587, .int .i64 t588, .slice Ao11 t589.length co11] 36 (0, 0)) (by (with_reducible repeat (first | refine blk_drewN ?_ _ | refine blk_drew ?_ | refine blk_alloc ?_ _)); exact BK594.out) hb); have n2_ := Aside0.mk (below_step (by repeat (first | (with_reducible first | exact HB.out | apply below_alloc | apply pw_below_drewN | apply below_drew1 | refine below_set ?_ GE594.out) | exact HB.out)) hb); have n3_ := Aside0.mk (hbox); have n4_ := Aside0.mk ((by rw [hg]; exact (below_size (by repeat (first | (with_reducible first | exact HB.out | apply below_alloc | apply pw_below_drewN | apply below_drew1 | refine below_set ?_ GE594.out) | exact HB.out))) : w.heap.size ≤ gb599)); have n5_ := Aside0.mk ((by rw [hg]; exact (below_size (by repeat (first | (with_reducible first | exact HB.out | apply below_alloc | apply pw_below_drewN | apply below_drew1 | refine below_set ?_ GE594.out) | exact HB.out))) : w.heap.size ≤ gb599)); have n6_ := Aside0.mk ((by rw [hg]; exact Nat.ne_of_lt (blk_lt (g := gb594) (o := .cells #[.int .i64 t587, .int .i64 t588, .slice Ao11 t589.length co11] 36 (0, 0)) (by (with_reducible repeat (first | refine blk_drewN ?_ _ | refine blk_drew ?_ | refine blk_alloc ?_ _)); exact BK594.out)) : gb594 ≠ gb599)); have n7_ := Aside0.mk ((by rw [hg]; exact Nat.ne_of_gt (blk_lt (g := gb594) (o := .cells #[.int .i64 t587, .int .i64 t588, .slice Ao11 t589.length co11] 36 (0, 0)) (by (with_reducible repeat (first | refine blk_drewN ?_ _ | refine blk_drew ?_ | refine blk_alloc ?_ _)); exact BK594.out)) : gb599 ≠ gb594)); clear HO591; clear BK594; clear HB; have HO591 := n0_; have BK594 := n1_; have HB := n2_; have BK599 := n3_; have GW599 := n4_; have GE599 := n5_; have NB594_599 := n6_; have NB599_594 := n7_; clear n0_ n1_ n2_ n3_ n4_ n5_ n6_ n7_; clear hb hbox hg; have hnb14 := NB599_594.out; have hnc14 := NB594_599.out; have hcz15_0 : w13.cell? ⟨gb599, 0, none⟩ = some (.int .i64 0) := (blk_cell BK599.out 0).trans rfl; have hcz15_1 : w13.cell? ⟨gb599, 1, none⟩ = some (.int .i64 0) := (blk_cell BK599.out 1).trans rfl; have hcz15_2 : w13.cell? ⟨gb599, 2, none⟩ = some (.int .i64 0) := (blk_cell BK599.out 2).trans rfl; have hcz15_3 : w13.cell? ⟨gb599, 3, none⟩ = some (.int .i64 0) := (blk_cell BK599.out 3).trans rfl; have hfz15_0 := blk_frozen BK599.out 0; have hfz15_1 := blk_frozen BK599.out 1; have hfz15_2 := blk_frozen BK599.out 2; have hfz15_3 := blk_frozen BK599.out 3))
   have n0_ : Aside0 (Kd.Q k39 39 ((((w13.setCell ⟨gb599, 0, none⟩ (.int .i64 t595)).setCell ⟨gb599, 1, none⟩ (.int .i64 t596)).setCell ⟨gb599, 2, none⟩ (.int .i64 t597)).setCell ⟨gb599, 3, none⟩ (.int .i64 t598)) w.heap.size (fun k_ => k_ ≠ gb599) (.slice Ao11 t589.length co11) t589) := ⟨by (with_reducible repeat (first | apply Kd.Q_alloc | apply Kd.Q_drewN | apply Kd.Q_drew)); exact Kd.Q_mono (Kd.Q_far (p := ⟨gb599, 3, none⟩) (Kd.Q_far (p := ⟨gb599, 2, none⟩) (Kd.Q_far (p := ⟨gb599, 1, none⟩) (Kd.Q_far (p := ⟨gb599, 0, none⟩) (Kd.Q_mono HO591.out (fun k_ hk => (⟨hk, hk.2⟩ : _ ∧ k_ ≠ gb599))) (fun _ hk => hk.2) (.int .i64 t595)) (fun _ hk => hk.2) (.int .i64 t596)) (fun _ hk => hk.2) (.int .i64 t597)) (fun _ hk => hk.2) (.int .i64 t598)) (fun _ hk => hk.1.2)⟩
   have n1_ : Aside0 (((((w13.setCell ⟨gb599, 0, none⟩ (.int .i64 t595)).setCell ⟨gb599, 1, none⟩ (.int .i64 t596)).setCell ⟨gb599, 2, none⟩ (.int .i64 t597)).setCell ⟨gb599, 3, none⟩ (.int .i64 t598)).heap[gb594]? = some (.cells #[.int .i64 t587, .int .i64 t588, .slice Ao11 t589.length co11] 36 (0, 0))) := ⟨by (with_reducible repeat (first | refine blk_drewN ?_ _ | refine blk_drew ?_ | refine blk_alloc ?_ _)); refine blk_far ?_ NB594_599.out _; (with_reducible repeat (first | refine blk_drewN ?_ _ | refine blk_drew ?_ | refine blk_alloc ?_ _)); refine blk_far ?_ NB594_599.out _; (with_reducible repeat (first | refine blk_drewN ?_ _ | refine blk_drew ?_ | refine blk_alloc ?_ _)); refine blk_far ?_ NB594_599.out _; (with_reducible repeat (first | refine blk_drewN ?_ _ | refine blk_drew ?_ | refine blk_alloc ?_ _)); refine blk_far ?_ NB594_599.out _; (with_reducible repeat (first | refine blk_drewN ?_ _ | refine blk_drew ?_ | refine blk_alloc ?_ _)); exact BK594.out⟩
   have n2_ : Aside0 (((((w13.setCell ⟨gb599, 0, none⟩ (.int .i64 t595)).setCell ⟨gb599, 1, none⟩ (.int .i64 t596)).setCell ⟨gb599, 2, none⟩ (.int .i64 t597)).setCell ⟨gb599, 3, none⟩ (.int .i64 t598)).heap[gb599]? = some (.cells #[.int .i64 t595, .int .i64 t596, .int .i64 t597, .int .i64 t598] 39 (0, 0))) := ⟨by (with_reducible repeat (first | refine blk_drewN ?_ _ | refine blk_drew ?_ | refine blk_alloc ?_ _)); refine blk_put (cs := #[.int .i64 t595, .int .i64 t596, .int .i64 t597, .int .i64 0]) ?_ 3 _ rfl; (with_reducible repeat (first | refine blk_drewN ?_ _ | refine blk_drew ?_ | refine blk_alloc ?_ _)); refine blk_put (cs := #[.int .i64 t595, .int .i64 t596, .int .i64 0, .int .i64 0]) ?_ 2 _ rfl; (with_reducible repeat (first | refine blk_drewN ?_ _ | refine blk_drew ?_ | refine blk_alloc ?_ _)); refine blk_put (cs := #[.int .i64 t595, .int .i64 0, .int .i64 0, .int .i64 0]) ?_ 1 _ rfl; (with_reducible repeat (first | refine blk_drewN ?_ _ | refine blk_drew ?_ | refine blk_alloc ?_ _)); refine blk_put (cs := #[.int .i64 0, .int .i64 0, .int .i64 0, .int .i64 0]) ?_ 0 _ rfl; (with_reducible repeat (first | refine blk_drewN ?_ _ | refine blk_drew ?_ | refine blk_alloc ?_ _)); exact BK599.out⟩
   have n3_ : Aside0 (Below w.heap.size w ((((w13.setCell ⟨gb599, 0, none⟩ (.int .i64 t595)).setCell ⟨gb599, 1, none⟩ (.int .i64 t596)).setCell ⟨gb599, 2, none⟩ (.int .i64 t597)).setCell ⟨gb599, 3, none⟩ (.int .i64 t598))) := ⟨by repeat (first | (with_reducible first | exact HB.out | apply below_alloc | apply pw_below_drewN | apply below_drew1 | refine below_set ?_ GE594.out | refine below_set ?_ GE599.out) | exact HB.out)⟩
   (try clear HO591)
   (try clear BK594)
   (try clear BK599)
   (try clear HB)
   generalize ((((w13.setCell ⟨gb599, 0, none⟩ (.int .i64 t595)).setCell ⟨gb599, 1, none⟩ (.int .i64 t596)).setCell ⟨gb599, 2, none⟩ (.int .i64 t597)).setCell ⟨gb599, 3, none⟩ (.int .i64 t598)) = w16 at n0_ n1_ n2_ n3_ ⊢
   have HO591 := n0_
   have BK594 := n1_
   have BK599 := n2_
   have HB := n3_
   clear n0_ n1_ n2_ n3_
   have n0_ := Aside0.mk (Kd.Q_drew HO591.out)
   have n1_ := Aside0.mk (blk_drew BK594.out)
   have n2_ := Aside0.mk (blk_drew BK599.out)
   have n3_ := Aside0.mk (below_drew1 HB.out)
   clear HO591
   clear BK594
   clear BK599
   clear HB
   have HO591 := n0_
   have BK594 := n1_
   have BK599 := n2_
   have HB := n3_
   clear n0_ n1_ n2_ n3_
   refine start_ (n := 6) (S := fun w' => w'.cell? ⟨gb599, 0, none⟩ = some (.int .i64 t595) ∧ w'.cell? ⟨gb599, 1, none⟩ = some (.int .i64 t596) ∧ w'.cell? ⟨gb599, 2, none⟩ = some (.int .i64 t597) ∧ w'.cell? ⟨gb599, 3, none⟩ = some (.int .i64 t598) ∧ w'.cell? ⟨gb594, 0, none⟩ = some (.int .i64 t587) ∧ w'.cell? ⟨gb594, 1, none⟩ = some (.int .i64 t588) ∧ w'.cell? ⟨gb594, 2, none⟩ = some (.slice Ao11 t589.length co11)) (ds := []) #[false, false, false, false, false, false] (by kernel_rfl) rfl rfl ⟨(blk_cell BK599.out 0).trans rfl, (blk_cell BK599.out 1).trans rfl, (blk_cell BK599.out 2).trans rfl, (blk_cell BK599.out 3).trans rfl, (blk_cell BK594.out 0).trans rfl, (blk_cell BK594.out 1).trans rfl, (blk_cell BK594.out 2).trans rfl⟩ (fun hHeld => ?_)
   generalize w16.drew = w17 at HO591 BK594 BK599 HB hHeld ⊢
   refine pure_ (i := 2) (N := some 25) (v := ?_) (a' := ?_) #[false, false, true, false, false, false] rfl rfl (by kernel_rfl) (fun _ _ _ h => h) (Or.inl ⟨by rfl, ?_⟩) ?_ ?_
   rotate_left
   ·intro w'
    go_simp
    with_reducible rfl
   rotate_left
   ·simp only [Act.put, List.setIfInBounds_toArray, List.set_cons_zero, List.set_cons_succ, i64_w, i32_w]
    rfl
   refine pure_ (i := 3) (N := some 26) (v := ?_) (a' := ?_) #[false, false, true, true, false, false] rfl rfl (by kernel_rfl) (fun _ _ _ h => h) (Or.inl ⟨by rfl, ?_⟩) ?_ ?_
   rotate_left
   ·intro w'
    go_simp
    with_reducible rfl
   rotate_left
   ·simp only [Act.put, List.setIfInBounds_toArray, List.set_cons_zero, List.set_cons_succ, i64_w, i32_w]
    rfl
   refine take_ (i := 0) (N := some 23) (v := ?_) (a' := ?_) #[true, false, true, true, false, false] rfl rfl (by kernel_rfl) (fun _ _ _ h => h) (Or.inl ⟨by rfl, ?_⟩) hHeld ?_ ?_
   rotate_left
   ·rintro w' ⟨s0, s1, s2, s3, s4, s5, s6⟩
    go_simp
    with_reducible rfl
   rotate_left
   ·simp only [Act.put, List.setIfInBounds_toArray, List.set_cons_zero, List.set_cons_succ, i64_w, i32_w]
    rfl
   refine take_ (i := 1) (N := some 24) (v := ?_) (a' := ?_) #[true, true, true, true, false, false] rfl rfl (by kernel_rfl) (fun _ _ _ h => h) (Or.inl ⟨by rfl, ?_⟩) hHeld ?_ ?_
   rotate_left
   ·rintro w' ⟨s0, s1, s2, s3, s4, s5, s6⟩
    go_simp
    with_reducible rfl
   rotate_left
   ·simp only [Act.put, List.setIfInBounds_toArray, List.set_cons_zero, List.set_cons_succ, i64_w, i32_w]
    rfl
   refine one_ (i := 4) (N := some 27) #[true, true, true, true, true, false] rfl rfl (by kernel_rfl) (by decide) (fun K hK => ?_)
   refine goes_ Try.func36 (by kernel_rfl) rfl #[.agg #[.int .i64 t587, .int .i64 t588, .slice Ao11 t589.length co11], .int .i64 t592, .int .i64 t593] (by rfl) rfl rfl (by (try simp only [List.map_toArray, List.map_cons, List.map_nil]); first | done | rfl | (simp only [List.length_drop, List.length_take]; rfl)) ?_
   with_reducible refine (spec_RasAt.calls k t587 t588 _ _ t589 t592 t593 t600 t601 t602 t603 _ ?side1 ?side2 A5.out).mono ?_
   (case side1 => repeat (first | exact (Kd.Q_reads' HO591.out).2.2 | (with_reducible refine Kd.C_alloc ?_ _) | (with_reducible refine Kd.C_drewN ?_ _) | (with_reducible refine Kd.C_drew ?_)))
   (case side2 => exact (Kd.Q_reads' HO591.out).2.1)
   rintro e w18 ⟨rfl, hb⟩
   refine ⟨_, rfl, ?_⟩
   have n0_ := Aside0.mk (Kd.Q_below (by (with_reducible repeat (first | apply Kd.Q_alloc | apply Kd.Q_drewN | apply Kd.Q_drew)); exact HO591.out) hb)
   have n1_ := Aside0.mk (blk_below (g := gb594) (o := .cells #[.int .i64 t587, .int .i64 t588, .slice Ao11 t589.length co11] 36 (0, 0)) (by (with_reducible repeat (first | refine blk_drewN ?_ _ | refine blk_drew ?_ | refine blk_alloc ?_ _)); exact BK594.out) hb)
   have n2_ := Aside0.mk (blk_below (g := gb599) (o := .cells #[.int .i64 t595, .int .i64 t596, .int .i64 t597, .int .i64 t598] 39 (0, 0)) (by (with_reducible repeat (first | refine blk_drewN ?_ _ | refine blk_drew ?_ | refine blk_alloc ?_ _)); exact BK599.out) hb)
   have n3_ := Aside0.mk (below_step (by repeat (first | (with_reducible first | exact HB.out | apply below_alloc | apply pw_below_drewN | apply below_drew1 | refine below_set ?_ GE594.out | refine below_set ?_ GE599.out) | exact HB.out)) hb)
   clear HO591
   clear BK594
   clear BK599
   clear HB
   have HO591 := n0_
   have BK594 := n1_
   have BK599 := n2_
   have HB := n3_
   clear n0_ n1_ n2_ n3_
   (try clear hb)
   (try clear hb2)
   (try clear hk)
   (try clear hi)
   refine hK.out _ _ ⟨(blk_cell BK599.out 0).trans rfl, (blk_cell BK599.out 1).trans rfl, (blk_cell BK599.out 2).trans rfl, (blk_cell BK599.out 3).trans rfl, (blk_cell BK594.out 0).trans rfl, (blk_cell BK594.out 1).trans rfl, (blk_cell BK594.out 2).trans rfl⟩ (fun hHeld => ?_)
   clear hK K
   refine norm_ (a' := ?_) ?_ ?_
   rotate_left
   ·show Act.put _ (some 27) _ = _
    simp only [Act.put, List.setIfInBounds_toArray, List.set_cons_zero, List.set_cons_succ, i64_w, i32_w]
    rfl
   refine pure_ (i := 5) (N := some 28) (v := ?_) (a' := ?_) #[true, true, true, true, true, true] rfl rfl (by kernel_rfl) (fun _ _ _ h => h) (Or.inl ⟨by rfl, ?_⟩) ?_ ?_
   rotate_left
   ·intro w'
    go_simp
    with_reducible rfl
   rotate_left
   ·simp only [Act.put, List.setIfInBounds_toArray, List.set_cons_zero, List.set_cons_succ, i64_w, i32_w]
    rfl
   refine done_ (by kernel_rfl) ?_
   go_upto_region 7 with (fail)
   go_cut [51] (fun v51 wc => ∃ (kq : Nat) (x51_6 : Bool), v51 = .bool x51_6 ∧ Aside0 (laws_FnRasAt.j0 kq x51_6 t587 t588 t589 t595 t596 t597 t598 = some r) ∧ Aside0 (kq ≤ k) ∧ Aside0 (Kd.Q k39 39 wc w.heap.size (fun k_ => k_ ≠ gb599) (.slice Ao11 t589.length co11) t589) ∧ Aside0 (wc.heap[gb594]? = some (.cells #[.int .i64 t587, .int .i64 t588, (.slice Ao11 t589.length co11)] 36 (0, 0))) ∧ Aside0 (wc.heap[gb599]? = some (.cells #[.int .i64 t595, .int .i64 t596, .int .i64 t597, .int .i64 t598] 39 (0, 0))) ∧ Aside0 (Below w.heap.size w wc))
   case first =>
    have H := HC7.out
    clear HC7
    replace H := Option.bind_eq_some_iff.mp H
    obtain ⟨t604, A190, H⟩ := H
    replace H : (if t604 = true then (if t592 < 0 then (laws_FnRasAt.j0 k true t587 t588 t589 t595 t596 t597 t598) else (if t592 ≥ t587 then (laws_FnRasAt.j0 k true t587 t588 t589 t595 t596 t597 t598) else (if t593 < 0 then (laws_FnRasAt.j0 k true t587 t588 t589 t595 t596 t597 t598) else (laws_FnRasAt.j0 k (decide (t593 ≥ t588)) t587 t588 t589 t595 t596 t597 t598)))) else (laws_FnRasAt.j0 k true t587 t588 t589 t595 t596 t597 t598)) = some r := H
    have A19 := Aside0.mk A190
    clear A190
    by_cases c20 : t604 = true
    ·subst c20
     have H1 : (if t592 < 0 then (laws_FnRasAt.j0 k true t587 t588 t589 t595 t596 t597 t598) else (if t592 ≥ t587 then (laws_FnRasAt.j0 k true t587 t588 t589 t595 t596 t597 t598) else (if t593 < 0 then (laws_FnRasAt.j0 k true t587 t588 t589 t595 t596 t597 t598) else (laws_FnRasAt.j0 k (decide (t593 ≥ t588)) t587 t588 t589 t595 t596 t597 t598)))) = some r := by rw [if_pos rfl] at H; exact H
     clear H
     have H := H1
     clear H1
     by_cases c21 : t592 < 0
     ·rw [if_pos c21] at H
      have c21b0 : decide (t592 < 0) = true := decide_eq_true c21
      clear c21
      (first | rw [c21b0] | (simp only [i64_w, i32_w]; rw [c21b0]) | skip)
      have H' := Aside0.mk H
      clear H
      have hnb22 := NB594_599.out
      have hnc22 := NB599_594.out
      have hcz23_0 : w18.cell? ⟨gb594, 0, none⟩ = some (.int .i64 t587) := (blk_cell BK594.out 0).trans rfl
      have hcz23_1 : w18.cell? ⟨gb594, 1, none⟩ = some (.int .i64 t588) := (blk_cell BK594.out 1).trans rfl
      have hcz23_2 : w18.cell? ⟨gb594, 2, none⟩ = some (.slice Ao11 t589.length co11) := (blk_cell BK594.out 2).trans rfl
      have hfz23_0 := blk_frozen BK594.out 0
      have hfz23_1 := blk_frozen BK594.out 1
      have hfz23_2 := blk_frozen BK594.out 2
      go_wp2_with (first | ((with_reducible refine gate_callee (f := 23) rfl ?_); refine goesL_ (some 30) rfl rfl Try.func23 (by kernel_rfl) rfl #[.agg #[.int .i64 t587, .int .i64 t588, .slice Ao11 t589.length co11]] rfl (by (try simp only [List.map_toArray, List.map_cons, List.map_nil]); first | done | rfl | (simp only [List.length_drop, List.length_take]; rfl)) ?_; (with_reducible refine (spec_RasOk.calls k t587 t588 _ _ t589 true _ ?side1 ?side2 A19.out).mono ?_); (case side1 => repeat (first | exact (Kd.Q_reads' HO591.out).2.2 | (with_reducible refine Kd.C_alloc ?_ _) | (with_reducible refine Kd.C_drewN ?_ _) | (with_reducible refine Kd.C_drew ?_))); (case side2 => exact (Kd.Q_reads' HO591.out).2.1); rintro e w24 ⟨rfl, hb⟩; refine ⟨_, rfl, ?_⟩; have n0_ := Aside0.mk (Kd.Q_below (by (with_reducible repeat (first | apply Kd.Q_alloc | apply Kd.Q_drewN | apply Kd.Q_drew)); exact HO591.out) hb); have n1_ := Aside0.mk (blk_below (g := gb594) (o := .cells #[.int .i64 t587, .int .i64 t588, .slice Ao11 t589.length co11] 36 (0, 0)) (by (with_reducible repeat (first | refine blk_drewN ?_ _ | refine blk_drew ?_ | refine blk_alloc ?_ _)); exact BK594.out) hb); have n2_ := Aside0.mk (blk_below (g := gb599) (o := .cells #[.int .i64 t595, .int .i64 t596, .int .i64 t597, .int .i64 t598] 39 (0, 0)) (by (with_reducible repeat (first | refine blk_drewN ?_ _ | refine blk_drew ?_ | refine blk_alloc ?_ _)); exact BK599.out) hb); have n3_ := Aside0.mk (below_step (by repeat (first | (with_reducible first | exact HB.out | apply below_alloc | apply pw_below_drewN | apply below_drew1 | refine below_set ?_ GE594.out | refine below_set ?_ GE599.out) | exact HB.out)) hb); clear HO591; clear BK594; clear BK599; clear HB; have HO591 := n0_; have BK594 := n1_; have BK599 := n2_; have HB := n3_; clear n0_ n1_ n2_ n3_; (try clear hb); (try clear hb2); (try clear hk); (try clear hi)))
      go_meet
      case rel => exact ⟨_, (true), (by first | rfl | (simp; done) | (simp [*]; done)), H', ⟨by first | omega | exact Nat.le_refl _⟩, ⟨by (with_reducible repeat (first | apply Kd.Q_alloc | apply Kd.Q_drewN | apply Kd.Q_drew)); exact HO591.out⟩, ⟨by (with_reducible repeat (first | refine blk_drewN ?_ _ | refine blk_drew ?_ | refine blk_alloc ?_ _)); exact BK594.out⟩, ⟨by (with_reducible repeat (first | refine blk_drewN ?_ _ | refine blk_drew ?_ | refine blk_alloc ?_ _)); exact BK599.out⟩, ⟨by repeat (first | (with_reducible first | exact HB.out | apply below_alloc | apply pw_below_drewN | apply below_drew1 | refine below_set ?_ GE594.out | refine below_set ?_ GE599.out) | exact HB.out)⟩⟩
     ·rw [if_neg c21] at H
      have c21b0 : decide (t592 < 0) = false := decide_eq_false c21
      clear c21
      (first | rw [c21b0] | (simp only [i64_w, i32_w]; rw [c21b0]) | skip)
      by_cases c25 : t592 ≥ t587
      ·rw [if_pos c25] at H
       have c25b0 : decide (t587 ≤ t592) = true := decide_eq_true c25
       clear c25
       have H' := Aside0.mk H
       clear H
       have hnb26 := NB594_599.out
       have hnc26 := NB599_594.out
       have hcz27_0 : w18.cell? ⟨gb594, 0, none⟩ = some (.int .i64 t587) := (blk_cell BK594.out 0).trans rfl
       have hcz27_1 : w18.cell? ⟨gb594, 1, none⟩ = some (.int .i64 t588) := (blk_cell BK594.out 1).trans rfl
       have hcz27_2 : w18.cell? ⟨gb594, 2, none⟩ = some (.slice Ao11 t589.length co11) := (blk_cell BK594.out 2).trans rfl
       have hfz27_0 := blk_frozen BK594.out 0
       have hfz27_1 := blk_frozen BK594.out 1
       have hfz27_2 := blk_frozen BK594.out 2
       go_wp2_with (first | ((with_reducible refine gate_callee (f := 23) rfl ?_); refine goesL_ (some 30) rfl rfl Try.func23 (by kernel_rfl) rfl #[.agg #[.int .i64 t587, .int .i64 t588, .slice Ao11 t589.length co11]] rfl (by (try simp only [List.map_toArray, List.map_cons, List.map_nil]); first | done | rfl | (simp only [List.length_drop, List.length_take]; rfl)) ?_; (with_reducible refine (spec_RasOk.calls k t587 t588 _ _ t589 true _ ?side1 ?side2 A19.out).mono ?_); (case side1 => repeat (first | exact (Kd.Q_reads' HO591.out).2.2 | (with_reducible refine Kd.C_alloc ?_ _) | (with_reducible refine Kd.C_drewN ?_ _) | (with_reducible refine Kd.C_drew ?_))); (case side2 => exact (Kd.Q_reads' HO591.out).2.1); rintro e w28 ⟨rfl, hb⟩; refine ⟨_, rfl, ?_⟩; have n0_ := Aside0.mk (Kd.Q_below (by (with_reducible repeat (first | apply Kd.Q_alloc | apply Kd.Q_drewN | apply Kd.Q_drew)); exact HO591.out) hb); have n1_ := Aside0.mk (blk_below (g := gb594) (o := .cells #[.int .i64 t587, .int .i64 t588, .slice Ao11 t589.length co11] 36 (0, 0)) (by (with_reducible repeat (first | refine blk_drewN ?_ _ | refine blk_drew ?_ | refine blk_alloc ?_ _)); exact BK594.out) hb); have n2_ := Aside0.mk (blk_below (g := gb599) (o := .cells #[.int .i64 t595, .int .i64 t596, .int .i64 t597, .int .i64 t598] 39 (0, 0)) (by (with_reducible repeat (first | refine blk_drewN ?_ _ | refine blk_drew ?_ | refine blk_alloc ?_ _)); exact BK599.out) hb); have n3_ := Aside0.mk (below_step (by repeat (first | (with_reducible first | exact HB.out | apply below_alloc | apply pw_below_drewN | apply below_drew1 | refine below_set ?_ GE594.out | refine below_set ?_ GE599.out) | exact HB.out)) hb); clear HO591; clear BK594; clear BK599; clear HB; have HO591 := n0_; have BK594 := n1_; have BK599 := n2_; have HB := n3_; clear n0_ n1_ n2_ n3_; (try clear hb); (try clear hb2); (try clear hk); (try clear hi); have hcz29_0 : w28.cell? ⟨gb594, 0, none⟩ = some (.int .i64 t587) := (blk_cell BK594.out 0).trans rfl; have hcz29_1 : w28.cell? ⟨gb594, 1, none⟩ = some (.int .i64 t588) := (blk_cell BK594.out 1).trans rfl; have hcz29_2 : w28.cell? ⟨gb594, 2, none⟩ = some (.slice Ao11 t589.length co11) := (blk_cell BK594.out 2).trans rfl; have hfz29_0 := blk_frozen BK594.out 0; have hfz29_1 := blk_frozen BK594.out 1; have hfz29_2 := blk_frozen BK594.out 2))
       go_meet
       case rel => exact ⟨_, (true), (by first | rfl | (simp; done) | (simp [*]; done)), H', ⟨by first | omega | exact Nat.le_refl _⟩, ⟨by (with_reducible repeat (first | apply Kd.Q_alloc | apply Kd.Q_drewN | apply Kd.Q_drew)); exact HO591.out⟩, ⟨by (with_reducible repeat (first | refine blk_drewN ?_ _ | refine blk_drew ?_ | refine blk_alloc ?_ _)); exact BK594.out⟩, ⟨by (with_reducible repeat (first | refine blk_drewN ?_ _ | refine blk_drew ?_ | refine blk_alloc ?_ _)); exact BK599.out⟩, ⟨by repeat (first | (with_reducible first | exact HB.out | apply below_alloc | apply pw_below_drewN | apply below_drew1 | refine below_set ?_ GE594.out | refine below_set ?_ GE599.out) | exact HB.out)⟩⟩
      ·rw [if_neg c25] at H
       have c25b0 : decide (t587 ≤ t592) = false := decide_eq_false c25
       clear c25
       by_cases c30 : t593 < 0
       ·rw [if_pos c30] at H
        have c30b0 : decide (t593 < 0) = true := decide_eq_true c30
        clear c30
        have H' := Aside0.mk H
        clear H
        have hnb31 := NB594_599.out
        have hnc31 := NB599_594.out
        have hcz32_0 : w18.cell? ⟨gb594, 0, none⟩ = some (.int .i64 t587) := (blk_cell BK594.out 0).trans rfl
        have hcz32_1 : w18.cell? ⟨gb594, 1, none⟩ = some (.int .i64 t588) := (blk_cell BK594.out 1).trans rfl
        have hcz32_2 : w18.cell? ⟨gb594, 2, none⟩ = some (.slice Ao11 t589.length co11) := (blk_cell BK594.out 2).trans rfl
        have hfz32_0 := blk_frozen BK594.out 0
        have hfz32_1 := blk_frozen BK594.out 1
        have hfz32_2 := blk_frozen BK594.out 2
        go_wp2_with (first | ((with_reducible refine gate_callee (f := 23) rfl ?_); refine goesL_ (some 30) rfl rfl Try.func23 (by kernel_rfl) rfl #[.agg #[.int .i64 t587, .int .i64 t588, .slice Ao11 t589.length co11]] rfl (by (try simp only [List.map_toArray, List.map_cons, List.map_nil]); first | done | rfl | (simp only [List.length_drop, List.length_take]; rfl)) ?_; (with_reducible refine (spec_RasOk.calls k t587 t588 _ _ t589 true _ ?side1 ?side2 A19.out).mono ?_); (case side1 => repeat (first | exact (Kd.Q_reads' HO591.out).2.2 | (with_reducible refine Kd.C_alloc ?_ _) | (with_reducible refine Kd.C_drewN ?_ _) | (with_reducible refine Kd.C_drew ?_))); (case side2 => exact (Kd.Q_reads' HO591.out).2.1); rintro e w33 ⟨rfl, hb⟩; refine ⟨_, rfl, ?_⟩; have n0_ := Aside0.mk (Kd.Q_below (by (with_reducible repeat (first | apply Kd.Q_alloc | apply Kd.Q_drewN | apply Kd.Q_drew)); exact HO591.out) hb); have n1_ := Aside0.mk (blk_below (g := gb594) (o := .cells #[.int .i64 t587, .int .i64 t588, .slice Ao11 t589.length co11] 36 (0, 0)) (by (with_reducible repeat (first | refine blk_drewN ?_ _ | refine blk_drew ?_ | refine blk_alloc ?_ _)); exact BK594.out) hb); have n2_ := Aside0.mk (blk_below (g := gb599) (o := .cells #[.int .i64 t595, .int .i64 t596, .int .i64 t597, .int .i64 t598] 39 (0, 0)) (by (with_reducible repeat (first | refine blk_drewN ?_ _ | refine blk_drew ?_ | refine blk_alloc ?_ _)); exact BK599.out) hb); have n3_ := Aside0.mk (below_step (by repeat (first | (with_reducible first | exact HB.out | apply below_alloc | apply pw_below_drewN | apply below_drew1 | refine below_set ?_ GE594.out | refine below_set ?_ GE599.out) | exact HB.out)) hb); clear HO591; clear BK594; clear BK599; clear HB; have HO591 := n0_; have BK594 := n1_; have BK599 := n2_; have HB := n3_; clear n0_ n1_ n2_ n3_; (try clear hb); (try clear hb2); (try clear hk); (try clear hi); have hcz34_0 : w33.cell? ⟨gb594, 0, none⟩ = some (.int .i64 t587) := (blk_cell BK594.out 0).trans rfl; have hcz34_1 : w33.cell? ⟨gb594, 1, none⟩ = some (.int .i64 t588) := (blk_cell BK594.out 1).trans rfl; have hcz34_2 : w33.cell? ⟨gb594, 2, none⟩ = some (.slice Ao11 t589.length co11) := (blk_cell BK594.out 2).trans rfl; have hfz34_0 := blk_frozen BK594.out 0; have hfz34_1 := blk_frozen BK594.out 1; have hfz34_2 := blk_frozen BK594.out 2))
        go_meet
        case rel => exact ⟨_, (true), (by first | rfl | (simp; done) | (simp [*]; done)), H', ⟨by first | omega | exact Nat.le_refl _⟩, ⟨by (with_reducible repeat (first | apply Kd.Q_alloc | apply Kd.Q_drewN | apply Kd.Q_drew)); exact HO591.out⟩, ⟨by (with_reducible repeat (first | refine blk_drewN ?_ _ | refine blk_drew ?_ | refine blk_alloc ?_ _)); exact BK594.out⟩, ⟨by (with_reducible repeat (first | refine blk_drewN ?_ _ | refine blk_drew ?_ | refine blk_alloc ?_ _)); exact BK599.out⟩, ⟨by repeat (first | (with_reducible first | exact HB.out | apply below_alloc | apply pw_below_drewN | apply below_drew1 | refine below_set ?_ GE594.out | refine below_set ?_ GE599.out) | exact HB.out)⟩⟩
       ·rw [if_neg c30] at H
        have c30b0 : decide (t593 < 0) = false := decide_eq_false c30
        clear c30
        have H' := Aside0.mk H
        clear H
        have hnb35 := NB594_599.out
        have hnc35 := NB599_594.out
        have hcz36_0 : w18.cell? ⟨gb594, 0, none⟩ = some (.int .i64 t587) := (blk_cell BK594.out 0).trans rfl
        have hcz36_1 : w18.cell? ⟨gb594, 1, none⟩ = some (.int .i64 t588) := (blk_cell BK594.out 1).trans rfl
        have hcz36_2 : w18.cell? ⟨gb594, 2, none⟩ = some (.slice Ao11 t589.length co11) := (blk_cell BK594.out 2).trans rfl
        have hfz36_0 := blk_frozen BK594.out 0
        have hfz36_1 := blk_frozen BK594.out 1
        have hfz36_2 := blk_frozen BK594.out 2
        go_wp2_with (first | ((with_reducible refine gate_callee (f := 23) rfl ?_); refine goesL_ (some 30) rfl rfl Try.func23 (by kernel_rfl) rfl #[.agg #[.int .i64 t587, .int .i64 t588, .slice Ao11 t589.length co11]] rfl (by (try simp only [List.map_toArray, List.map_cons, List.map_nil]); first | done | rfl | (simp only [List.length_drop, List.length_take]; rfl)) ?_; (with_reducible refine (spec_RasOk.calls k t587 t588 _ _ t589 true _ ?side1 ?side2 A19.out).mono ?_); (case side1 => repeat (first | exact (Kd.Q_reads' HO591.out).2.2 | (with_reducible refine Kd.C_alloc ?_ _) | (with_reducible refine Kd.C_drewN ?_ _) | (with_reducible refine Kd.C_drew ?_))); (case side2 => exact (Kd.Q_reads' HO591.out).2.1); rintro e w37 ⟨rfl, hb⟩; refine ⟨_, rfl, ?_⟩; have n0_ := Aside0.mk (Kd.Q_below (by (with_reducible repeat (first | apply Kd.Q_alloc | apply Kd.Q_drewN | apply Kd.Q_drew)); exact HO591.out) hb); have n1_ := Aside0.mk (blk_below (g := gb594) (o := .cells #[.int .i64 t587, .int .i64 t588, .slice Ao11 t589.length co11] 36 (0, 0)) (by (with_reducible repeat (first | refine blk_drewN ?_ _ | refine blk_drew ?_ | refine blk_alloc ?_ _)); exact BK594.out) hb); have n2_ := Aside0.mk (blk_below (g := gb599) (o := .cells #[.int .i64 t595, .int .i64 t596, .int .i64 t597, .int .i64 t598] 39 (0, 0)) (by (with_reducible repeat (first | refine blk_drewN ?_ _ | refine blk_drew ?_ | refine blk_alloc ?_ _)); exact BK599.out) hb); have n3_ := Aside0.mk (below_step (by repeat (first | (with_reducible first | exact HB.out | apply below_alloc | apply pw_below_drewN | apply below_drew1 | refine below_set ?_ GE594.out | refine below_set ?_ GE599.out) | exact HB.out)) hb); clear HO591; clear BK594; clear BK599; clear HB; have HO591 := n0_; have BK594 := n1_; have BK599 := n2_; have HB := n3_; clear n0_ n1_ n2_ n3_; (try clear hb); (try clear hb2); (try clear hk); (try clear hi); have hcz38_0 : w37.cell? ⟨gb594, 0, none⟩ = some (.int .i64 t587) := (blk_cell BK594.out 0).trans rfl; have hcz38_1 : w37.cell? ⟨gb594, 1, none⟩ = some (.int .i64 t588) := (blk_cell BK594.out 1).trans rfl; have hcz38_2 : w37.cell? ⟨gb594, 2, none⟩ = some (.slice Ao11 t589.length co11) := (blk_cell BK594.out 2).trans rfl; have hfz38_0 := blk_frozen BK594.out 0; have hfz38_1 := blk_frozen BK594.out 1; have hfz38_2 := blk_frozen BK594.out 2))
        go_meet
        case rel => exact ⟨_, (decide (t593 ≥ t588)), (by first | rfl | (simp; done) | (simp [*]; done)), H', ⟨by first | omega | exact Nat.le_refl _⟩, ⟨by (with_reducible repeat (first | apply Kd.Q_alloc | apply Kd.Q_drewN | apply Kd.Q_drew)); exact HO591.out⟩, ⟨by (with_reducible repeat (first | refine blk_drewN ?_ _ | refine blk_drew ?_ | refine blk_alloc ?_ _)); exact BK594.out⟩, ⟨by (with_reducible repeat (first | refine blk_drewN ?_ _ | refine blk_drew ?_ | refine blk_alloc ?_ _)); exact BK599.out⟩, ⟨by repeat (first | (with_reducible first | exact HB.out | apply below_alloc | apply pw_below_drewN | apply below_drew1 | refine below_set ?_ GE594.out | refine below_set ?_ GE599.out) | exact HB.out)⟩⟩
    ·replace c20 := Bool.eq_false_iff.mpr c20
     subst c20
     have H1 : (laws_FnRasAt.j0 k true t587 t588 t589 t595 t596 t597 t598) = some r := by rw [if_neg (show ¬ (false = true) by decide)] at H; exact H
     clear H
     have H := H1
     clear H1
     have H' := Aside0.mk H
     clear H
     have hnb39 := NB594_599.out
     have hnc39 := NB599_594.out
     have hcz40_0 : w18.cell? ⟨gb594, 0, none⟩ = some (.int .i64 t587) := (blk_cell BK594.out 0).trans rfl
     have hcz40_1 : w18.cell? ⟨gb594, 1, none⟩ = some (.int .i64 t588) := (blk_cell BK594.out 1).trans rfl
     have hcz40_2 : w18.cell? ⟨gb594, 2, none⟩ = some (.slice Ao11 t589.length co11) := (blk_cell BK594.out 2).trans rfl
     have hfz40_0 := blk_frozen BK594.out 0
     have hfz40_1 := blk_frozen BK594.out 1
     have hfz40_2 := blk_frozen BK594.out 2
     go_wp2_with (first | ((with_reducible refine gate_callee (f := 23) rfl ?_); refine goesL_ (some 30) rfl rfl Try.func23 (by kernel_rfl) rfl #[.agg #[.int .i64 t587, .int .i64 t588, .slice Ao11 t589.length co11]] rfl (by (try simp only [List.map_toArray, List.map_cons, List.map_nil]); first | done | rfl | (simp only [List.length_drop, List.length_take]; rfl)) ?_; (with_reducible refine (spec_RasOk.calls k t587 t588 _ _ t589 false _ ?side1 ?side2 A19.out).mono ?_); (case side1 => repeat (first | exact (Kd.Q_reads' HO591.out).2.2 | (with_reducible refine Kd.C_alloc ?_ _) | (with_reducible refine Kd.C_drewN ?_ _) | (with_reducible refine Kd.C_drew ?_))); (case side2 => exact (Kd.Q_reads' HO591.out).2.1); rintro e w41 ⟨rfl, hb⟩; refine ⟨_, rfl, ?_⟩; have n0_ := Aside0.mk (Kd.Q_below (by (with_reducible repeat (first | apply Kd.Q_alloc | apply Kd.Q_drewN | apply Kd.Q_drew)); exact HO591.out) hb); have n1_ := Aside0.mk (blk_below (g := gb594) (o := .cells #[.int .i64 t587, .int .i64 t588, .slice Ao11 t589.length co11] 36 (0, 0)) (by (with_reducible repeat (first | refine blk_drewN ?_ _ | refine blk_drew ?_ | refine blk_alloc ?_ _)); exact BK594.out) hb); have n2_ := Aside0.mk (blk_below (g := gb599) (o := .cells #[.int .i64 t595, .int .i64 t596, .int .i64 t597, .int .i64 t598] 39 (0, 0)) (by (with_reducible repeat (first | refine blk_drewN ?_ _ | refine blk_drew ?_ | refine blk_alloc ?_ _)); exact BK599.out) hb); have n3_ := Aside0.mk (below_step (by repeat (first | (with_reducible first | exact HB.out | apply below_alloc | apply pw_below_drewN | apply below_drew1 | refine below_set ?_ GE594.out | refine below_set ?_ GE599.out) | exact HB.out)) hb); clear HO591; clear BK594; clear BK599; clear HB; have HO591 := n0_; have BK594 := n1_; have BK599 := n2_; have HB := n3_; clear n0_ n1_ n2_ n3_; (try clear hb); (try clear hb2); (try clear hk); (try clear hi)))
     go_meet
     case rel => exact ⟨_, (true), (by first | rfl | (simp; done) | (simp [*]; done)), H', ⟨by first | omega | exact Nat.le_refl _⟩, ⟨by (with_reducible repeat (first | apply Kd.Q_alloc | apply Kd.Q_drewN | apply Kd.Q_drew)); exact HO591.out⟩, ⟨by (with_reducible repeat (first | refine blk_drewN ?_ _ | refine blk_drew ?_ | refine blk_alloc ?_ _)); exact BK594.out⟩, ⟨by (with_reducible repeat (first | refine blk_drewN ?_ _ | refine blk_drew ?_ | refine blk_alloc ?_ _)); exact BK599.out⟩, ⟨by repeat (first | (with_reducible first | exact HB.out | apply below_alloc | apply pw_below_drewN | apply below_drew1 | refine below_set ?_ GE594.out | refine below_set ?_ GE599.out) | exact HB.out)⟩⟩
   case rest =>
    clear HC7
    try clear c1
    try clear c2
    try clear c2b0
    try clear c2b1
    try clear p2
    try clear c3
    try clear c6
    try clear c6b0
    try clear c8
    try clear c14
    try clear c20
    try clear c21
    try clear c21b0
    try clear c22
    try clear c23
    try clear c25
    try clear c25b0
    try clear c26
    try clear c30
    try clear c30b0
    try clear c31
    try clear c34
    try clear c35
    try clear c36
    try clear c39
    try clear hcz10_0
    try clear hcz10_1
    try clear hcz10_2
    try clear hcz15_0
    try clear hcz15_1
    try clear hcz15_2
    try clear hcz15_3
    try clear hcz23_0
    try clear hcz23_1
    try clear hcz23_2
    try clear hcz27_0
    try clear hcz27_1
    try clear hcz27_2
    try clear hcz29_0
    try clear hcz29_1
    try clear hcz29_2
    try clear hcz32_0
    try clear hcz32_1
    try clear hcz32_2
    try clear hcz34_0
    try clear hcz34_1
    try clear hcz34_2
    try clear hcz36_0
    try clear hcz36_1
    try clear hcz36_2
    try clear hcz38_0
    try clear hcz38_1
    try clear hcz38_2
    try clear hcz40_0
    try clear hcz40_1
    try clear hcz40_2
    try clear hfz10_0
    try clear hfz10_1
    try clear hfz10_2
    try clear hfz15_0
    try clear hfz15_1
    try clear hfz15_2
    try clear hfz15_3
    try clear hfz23_0
    try clear hfz23_1
    try clear hfz23_2
    try clear hfz27_0
    try clear hfz27_1
    try clear hfz27_2
    try clear hfz29_0
    try clear hfz29_1
    try clear hfz29_2
    try clear hfz32_0
    try clear hfz32_1
    try clear hfz32_2
    try clear hfz34_0
    try clear hfz34_1
    try clear hfz34_2
    try clear hfz36_0
    try clear hfz36_1
    try clear hfz36_2
    try clear hfz38_0
    try clear hfz38_1
    try clear hfz38_2
    try clear hfz40_0
    try clear hfz40_1
    try clear hfz40_2
    obtain ⟨kq, x51_6, rfl, HA, HJ6, HO_595002, BK594, BK599, HB⟩ := hcut
    cases kq with
    | zero => exact nomatch (show none = some _ from HA.out)
    | succ kj6 =>
     have H := HA.out
     clear HA
     simp only [laws_FnRasAt.j0] at H
     by_cases c42 : x51_6 = true
     ·subst c42
      have H1 : (if (t595 == 0 && (t596 == 0 && (t597 == 0 && (t598 == 0)))) = true then ((laws_eaOk.f).bind fun t605 => (some t605)) else (none)) = some r := by rw [if_pos rfl] at H; exact H
      clear H
      have H := H1
      clear H1
      by_cases c43 : (t595 == 0 && (t596 == 0 && (t597 == 0 && (t598 == 0)))) = true
      ·rw [if_pos c43] at H
       have c43b0 : (t595 == 0 && (t596 == 0 && (t597 == 0 && (t598 == 0)))) = true := c43
       (try (have c43b1 : decide (t595 = 0 && (t596 == 0 && (t597 == 0 && (t598 == 0)))) = true := by simpa using c43))
       (try (have c43b2 : (t595 == 0 && (t596 == 0 && (t597 == 0 && (t598 == 0)))) = true := by simpa using c43))
       clear c43
       replace H := Option.bind_eq_some_iff.mp H
       obtain ⟨t605, A440, H⟩ := H
       replace H : (some t605) = some r := H
       have A44 := Aside0.mk A440
       clear A440
       obtain rfl := Option.some.inj H
       have hnb45 := NB599_594.out
       have hnc45 := NB594_599.out
       have hcz46_0 : wc.cell? ⟨gb599, 0, none⟩ = some (.int .i64 t595) := (blk_cell BK599.out 0).trans rfl
       have hcz46_1 : wc.cell? ⟨gb599, 1, none⟩ = some (.int .i64 t596) := (blk_cell BK599.out 1).trans rfl
       have hcz46_2 : wc.cell? ⟨gb599, 2, none⟩ = some (.int .i64 t597) := (blk_cell BK599.out 2).trans rfl
       have hcz46_3 : wc.cell? ⟨gb599, 3, none⟩ = some (.int .i64 t598) := (blk_cell BK599.out 3).trans rfl
       have hfz46_0 := blk_frozen BK599.out 0
       have hfz46_1 := blk_frozen BK599.out 1
       have hfz46_2 := blk_frozen BK599.out 2
       have hfz46_3 := blk_frozen BK599.out 3
       go_wp2_with (first | (go_at_call 19; (with_reducible refine (laws_eaOk.calls  t605 _ A44.out).mono ?_); rintro e w47 ⟨rfl, hb⟩; have n0_ := Aside0.mk (Kd.Q_below (by (with_reducible repeat (first | apply Kd.Q_alloc | apply Kd.Q_drewN | apply Kd.Q_drew)); exact HO_595002.out) hb); have n1_ := Aside0.mk (blk_below (g := gb594) (o := .cells #[.int .i64 t587, .int .i64 t588, .slice Ao11 t589.length co11] 36 (0, 0)) (by (with_reducible repeat (first | refine blk_drewN ?_ _ | refine blk_drew ?_ | refine blk_alloc ?_ _)); exact BK594.out) hb); have n2_ := Aside0.mk (blk_below (g := gb599) (o := .cells #[.int .i64 t595, .int .i64 t596, .int .i64 t597, .int .i64 t598] 39 (0, 0)) (by (with_reducible repeat (first | refine blk_drewN ?_ _ | refine blk_drew ?_ | refine blk_alloc ?_ _)); exact BK599.out) hb); have n3_ := Aside0.mk (below_step (by repeat (first | (with_reducible first | exact HB.out | apply below_alloc | apply pw_below_drewN | apply below_drew1 | refine below_set ?_ GE594.out | refine below_set ?_ GE599.out) | exact HB.out)) hb); clear HO_595002; clear BK594; clear BK599; clear HB; have HO_595002 := n0_; have BK594 := n1_; have BK599 := n2_; have HB := n3_; clear n0_ n1_ n2_ n3_; (try clear hb); (try clear hb2); (try clear hk); (try clear hi)))
       go_ret
       exact ⟨by first | rfl | (simp [errW_none, errW_some] <;> rfl) | (simp [*, errW_none, errW_some] <;> rfl), by repeat (first | (with_reducible first | exact HB.out | apply below_alloc | apply pw_below_drewN | apply below_drew1 | refine below_set ?_ GE594.out | refine below_set ?_ GE599.out) | exact HB.out)⟩
      ·rw [if_neg c43] at H
       exact absurd H (by simp)
     ·replace c42 := Bool.eq_false_iff.mpr c42
      subst c42
      have H1 : (laws_FnRasAt.l0 kj6 (([] : List (S39))) 0 t587 t588 t589) = some r := by rw [if_neg (show ¬ (false = true) by decide)] at H; exact H
      clear H
      have H := H1
      clear H1
      obtain ⟨y606, hy606⟩ : ∃ y_ : List (S39), y_ = (([] : List (S39))) := ⟨_, rfl⟩
      replace H : (laws_FnRasAt.l0 kj6 y606 0 t587 t588 t589) = some r := by first | (rw [hy606]; with_reducible exact H) | (have H2_ := (Option.bind_some _ _).symm.trans H; rw [hy606]; with_reducible exact H2_) | (have H2_ := (Option.bind_some _ _).symm.trans H; with_reducible exact H2_) | with_reducible exact H | (rw [hy606]; exact H) | exact H
      have Ny606 := Aside0.mk hy606
      clear hy606
      have H' := Aside0.mk H
      clear H
      go_wp2_with (first | ((with_reducible refine gate_dst (N := 58) rfl ?_); refine Kd.R_lit k39 _ 39 ?hg (N := 58) ?hd (xs := ([] : List (S39))) (inner := []) (ok := fun _ => True) (okp := fun _ => True) ?hr ?hp (fun _ hk => hk) trivial (Below.refl _ _) (Nat.le_refl _) (by simp) ?_; (case hd => rfl); (case hg => rfl); (case hr => first | (go_simp; done) | (go_simp; rfl)); (case hp => exact (Reps.none _ _)); intro v607 w48 ho49 hb hg_ hnew_; clear hg_ hnew_; (first | rw [← Ny606.out] at ho49 | (simp only [Int.reduceToNat] at ho49; rw [← Ny606.out] at ho49)); have n0_ := Aside0.mk (Kd.Q_elder' (by (with_reducible repeat (first | apply Kd.Q_alloc | apply Kd.Q_drewN | apply Kd.Q_drew)); exact HO_595002.out) (Kd.R_base ho49) hb); have n1_ := Aside0.mk (Kd.R_lower (Kd.R_newB (Kd.R_new' ho49 (Kd.Q_lt (by (with_reducible repeat (first | apply Kd.Q_alloc | apply Kd.Q_drewN | apply Kd.Q_drew)); exact HO_595002.out))) (g := gb599) (o := .cells #[.int .i64 t595, .int .i64 t596, .int .i64 t597, .int .i64 t598] 39 (0, 0)) (by (with_reducible repeat (first | refine blk_drewN ?_ _ | refine blk_drew ?_ | refine blk_alloc ?_ _)); exact BK599.out)) (below_size (by repeat (first | (with_reducible first | exact HB.out | apply below_alloc | apply pw_below_drewN | apply below_drew1 | refine below_set ?_ GE594.out | refine below_set ?_ GE599.out) | exact HB.out)))); have n2_ := Aside0.mk (blk_below (g := gb594) (o := .cells #[.int .i64 t587, .int .i64 t588, .slice Ao11 t589.length co11] 36 (0, 0)) (by (with_reducible repeat (first | refine blk_drewN ?_ _ | refine blk_drew ?_ | refine blk_alloc ?_ _)); exact BK594.out) hb); have n3_ := Aside0.mk (blk_below (g := gb599) (o := .cells #[.int .i64 t595, .int .i64 t596, .int .i64 t597, .int .i64 t598] 39 (0, 0)) (by (with_reducible repeat (first | refine blk_drewN ?_ _ | refine blk_drew ?_ | refine blk_alloc ?_ _)); exact BK599.out) hb); have n4_ := Aside0.mk (below_step (by repeat (first | (with_reducible first | exact HB.out | apply below_alloc | apply pw_below_drewN | apply below_drew1 | refine below_set ?_ GE594.out | refine below_set ?_ GE599.out) | exact HB.out)) hb); clear HO_595002; clear BK594; clear BK599; clear HB; have HO_595002 := n0_; have HO608 := n1_; have BK594 := n2_; have BK599 := n3_; have HB := n4_; clear n0_ n1_ n2_ n3_ n4_; clear hb ho49))
      go_loopg [7, 8] kj6 (fun kq v7 v8 w' => ∃ (x7_2 : List (S39)) (x8_2 : Int), v8 = .int .i64 x8_2 ∧ Aside0 (laws_FnRasAt.l0 kq x7_2 x8_2 t587 t588 t589 = some r) ∧ Aside0 (kq ≤ kj6) ∧ Aside0 (Kd.R k39 39 w' w.heap.size (fun k_ => some k_ ≠ ((.slice Ao11 t589.length co11) : Value).ownBlock ∧ k_ ≠ gb599) v7 x7_2) ∧ Aside0 (Kd.Q k39 39 w' w.heap.size (fun k_ => some k_ ≠ (v7 : Value).ownBlock ∧ k_ ≠ gb599) (.slice Ao11 t589.length co11) t589) ∧ Aside0 (w'.heap[gb594]? = some (.cells #[.int .i64 t587, .int .i64 t588, (.slice Ao11 t589.length co11)] 36 (0, 0))) ∧ Aside0 (w'.heap[gb599]? = some (.cells #[.int .i64 t595, .int .i64 t596, .int .i64 t597, .int .i64 t598] 39 (0, 0))) ∧ Aside0 (Below w.heap.size w w'))
      case atStart => exact ⟨(y606), (0), (by first | rfl | (simp; done) | (simp [*]; done)), H', ⟨Nat.le_refl _⟩, ⟨by (with_reducible repeat (first | apply Kd.R_alloc | apply Kd.R_drewN | apply Kd.R_drew)); exact Kd.R_mono HO608.out (fun _ hk => ⟨hk.1.2, hk.2⟩)⟩, ⟨by (with_reducible repeat (first | apply Kd.Q_alloc | apply Kd.Q_drewN | apply Kd.Q_drew)); exact Kd.Q_mono HO_595002.out (fun _ hk => ⟨hk.2, hk.1⟩)⟩, ⟨by (with_reducible repeat (first | refine blk_drewN ?_ _ | refine blk_drew ?_ | refine blk_alloc ?_ _)); exact BK594.out⟩, ⟨by (with_reducible repeat (first | refine blk_drewN ?_ _ | refine blk_drew ?_ | refine blk_alloc ?_ _)); exact BK599.out⟩, ⟨by repeat (first | (with_reducible first | exact HB.out | apply below_alloc | apply pw_below_drewN | apply below_drew1 | refine below_set ?_ GE594.out | refine below_set ?_ GE599.out) | exact HB.out)⟩⟩
      case round =>
       clear H'
       try clear c1
       try clear c2
       try clear c2b0
       try clear c2b1
       try clear p2
       try clear c3
       try clear c4
       try clear c6
       try clear c6b0
       try clear c8
       try clear c14
       try clear c20
       try clear c21
       try clear c21b0
       try clear c22
       try clear c23
       try clear c25
       try clear c25b0
       try clear c26
       try clear c30
       try clear c30b0
       try clear c31
       try clear c34
       try clear c35
       try clear c36
       try clear c39
       try clear c42
       try clear c43
       try clear c43b0
       try clear c43b1
       try clear c43b2
       try clear c45
       try clear hcz10_0
       try clear hcz10_1
       try clear hcz10_2
       try clear hcz15_0
       try clear hcz15_1
       try clear hcz15_2
       try clear hcz15_3
       try clear hcz23_0
       try clear hcz23_1
       try clear hcz23_2
       try clear hcz27_0
       try clear hcz27_1
       try clear hcz27_2
       try clear hcz29_0
       try clear hcz29_1
       try clear hcz29_2
       try clear hcz32_0
       try clear hcz32_1
       try clear hcz32_2
       try clear hcz34_0
       try clear hcz34_1
       try clear hcz34_2
       try clear hcz36_0
       try clear hcz36_1
       try clear hcz36_2
       try clear hcz38_0
       try clear hcz38_1
       try clear hcz38_2
       try clear hcz40_0
       try clear hcz40_1
       try clear hcz40_2
       try clear hcz46_0
       try clear hcz46_1
       try clear hcz46_2
       try clear hcz46_3
       try clear hfz10_0
       try clear hfz10_1
       try clear hfz10_2
       try clear hfz15_0
       try clear hfz15_1
       try clear hfz15_2
       try clear hfz15_3
       try clear hfz23_0
       try clear hfz23_1
       try clear hfz23_2
       try clear hfz27_0
       try clear hfz27_1
       try clear hfz27_2
       try clear hfz29_0
       try clear hfz29_1
       try clear hfz29_2
       try clear hfz32_0
       try clear hfz32_1
       try clear hfz32_2
       try clear hfz34_0
       try clear hfz34_1
       try clear hfz34_2
       try clear hfz36_0
       try clear hfz36_1
       try clear hfz36_2
       try clear hfz38_0
       try clear hfz38_1
       try clear hfz38_2
       try clear hfz40_0
       try clear hfz40_1
       try clear hfz40_2
       try clear hfz46_0
       try clear hfz46_1
       try clear hfz46_2
       try clear hfz46_3
       try clear p2
       obtain ⟨x7_2, x8_2, rfl, HA, HK2, HO_7, HO_595002, BK594, BK599, HB⟩ := hrel
       cases gk with
       | zero => exact nomatch (show none = some _ from HA.out)
       | succ k2 =>
        have H := HA.out
        clear HA
        simp only [laws_FnRasAt.l0] at H
        by_cases c50 : x8_2 < t588
        ·rw [if_pos c50] at H
         have c50b0 : decide (x8_2 < t588) = true := decide_eq_true c50
         clear c50
         have H' := Aside0.mk H
         clear H
         have hnb51 := NB594_599.out
         have hnc51 := NB599_594.out
         have hcz52_0 : wr.cell? ⟨gb594, 0, none⟩ = some (.int .i64 t587) := (blk_cell BK594.out 0).trans rfl
         have hcz52_1 : wr.cell? ⟨gb594, 1, none⟩ = some (.int .i64 t588) := (blk_cell BK594.out 1).trans rfl
         have hcz52_2 : wr.cell? ⟨gb594, 2, none⟩ = some (.slice Ao11 t589.length co11) := (blk_cell BK594.out 2).trans rfl
         have hfz52_0 := blk_frozen BK594.out 0
         have hfz52_1 := blk_frozen BK594.out 1
         have hfz52_2 := blk_frozen BK594.out 2
         go_wp2
         go_loopg [7, 9] k2 (fun kq v7 v9 w' => ∃ (x7_3 : List (S39)) (x9_3 : Int), v9 = .int .i64 x9_3 ∧ Aside0 (laws_FnRasAt.l1 kq x7_3 x8_2 x9_3 t587 t588 t589 = some r) ∧ Aside0 (kq ≤ k2) ∧ Aside0 (Kd.R k39 39 w' w.heap.size (fun k_ => some k_ ≠ ((.slice Ao11 t589.length co11) : Value).ownBlock ∧ k_ ≠ gb599) v7 x7_3) ∧ Aside0 (Kd.Q k39 39 w' w.heap.size (fun k_ => some k_ ≠ (v7 : Value).ownBlock ∧ k_ ≠ gb599) (.slice Ao11 t589.length co11) t589) ∧ Aside0 (w'.heap[gb594]? = some (.cells #[.int .i64 t587, .int .i64 t588, (.slice Ao11 t589.length co11)] 36 (0, 0))) ∧ Aside0 (w'.heap[gb599]? = some (.cells #[.int .i64 t595, .int .i64 t596, .int .i64 t597, .int .i64 t598] 39 (0, 0))) ∧ Aside0 (Below w.heap.size w w'))
         case atStart => exact ⟨(x7_2), (0), (by first | rfl | (simp; done) | (simp [*]; done)), H', ⟨Nat.le_refl _⟩, ⟨by (with_reducible repeat (first | apply Kd.R_alloc | apply Kd.R_drewN | apply Kd.R_drew)); exact HO_7.out⟩, ⟨by (with_reducible repeat (first | apply Kd.Q_alloc | apply Kd.Q_drewN | apply Kd.Q_drew)); exact HO_595002.out⟩, ⟨by (with_reducible repeat (first | refine blk_drewN ?_ _ | refine blk_drew ?_ | refine blk_alloc ?_ _)); exact BK594.out⟩, ⟨by (with_reducible repeat (first | refine blk_drewN ?_ _ | refine blk_drew ?_ | refine blk_alloc ?_ _)); exact BK599.out⟩, ⟨by repeat (first | (with_reducible first | exact HB.out | apply below_alloc | apply pw_below_drewN | apply below_drew1 | refine below_set ?_ GE594.out | refine below_set ?_ GE599.out) | exact HB.out)⟩⟩
         case round =>
          clear H'
          try clear c1
          try clear c2
          try clear c2b0
          try clear c2b1
          try clear p2
          try clear c3
          try clear c4
          try clear c5
          try clear c6
          try clear c6b0
          try clear c8
          try clear c14
          try clear c20
          try clear c21
          try clear c21b0
          try clear c22
          try clear c23
          try clear c25
          try clear c25b0
          try clear c26
          try clear c30
          try clear c30b0
          try clear c31
          try clear c34
          try clear c35
          try clear c36
          try clear c39
          try clear c42
          try clear c43
          try clear c43b0
          try clear c43b1
          try clear c43b2
          try clear c45
          try clear c50
          try clear c50b0
          try clear c51
          try clear hcz10_0
          try clear hcz10_1
          try clear hcz10_2
          try clear hcz15_0
          try clear hcz15_1
          try clear hcz15_2
          try clear hcz15_3
          try clear hcz23_0
          try clear hcz23_1
          try clear hcz23_2
          try clear hcz27_0
          try clear hcz27_1
          try clear hcz27_2
          try clear hcz29_0
          try clear hcz29_1
          try clear hcz29_2
          try clear hcz32_0
          try clear hcz32_1
          try clear hcz32_2
          try clear hcz34_0
          try clear hcz34_1
          try clear hcz34_2
          try clear hcz36_0
          try clear hcz36_1
          try clear hcz36_2
          try clear hcz38_0
          try clear hcz38_1
          try clear hcz38_2
          try clear hcz40_0
          try clear hcz40_1
          try clear hcz40_2
          try clear hcz46_0
          try clear hcz46_1
          try clear hcz46_2
          try clear hcz46_3
          try clear hcz52_0
          try clear hcz52_1
          try clear hcz52_2
          try clear hfz10_0
          try clear hfz10_1
          try clear hfz10_2
          try clear hfz15_0
          try clear hfz15_1
          try clear hfz15_2
          try clear hfz15_3
          try clear hfz23_0
          try clear hfz23_1
          try clear hfz23_2
          try clear hfz27_0
          try clear hfz27_1
          try clear hfz27_2
          try clear hfz29_0
          try clear hfz29_1
          try clear hfz29_2
          try clear hfz32_0
          try clear hfz32_1
          try clear hfz32_2
          try clear hfz34_0
          try clear hfz34_1
          try clear hfz34_2
          try clear hfz36_0
          try clear hfz36_1
          try clear hfz36_2
          try clear hfz38_0
          try clear hfz38_1
          try clear hfz38_2
          try clear hfz40_0
          try clear hfz40_1
          try clear hfz40_2
          try clear hfz46_0
          try clear hfz46_1
          try clear hfz46_2
          try clear hfz46_3
          try clear hfz52_0
          try clear hfz52_1
          try clear hfz52_2
          try clear p2
          obtain ⟨x7_3, x9_3, rfl, HA, HK3, HO_7, HO_595002, BK594, BK599, HB⟩ := hrel
          cases gk with
          | zero => exact nomatch (show none = some _ from HA.out)
          | succ k3 =>
           have H := HA.out
           clear HA
           simp only [laws_FnRasAt.l1] at H
           by_cases c53 : x9_3 < t587
           ·rw [if_pos c53] at H
            have c53b0 : decide (x9_3 < t587) = true := decide_eq_true c53
            clear c53
            replace H := Option.bind_eq_some_iff.mp H
            obtain ⟨⟨t610, t611, t612, t613⟩, A540, H⟩ := H
            replace H : (if x7_3.length < 4398046511104 then (laws_FnRasAt.l1 k3 (x7_3 ++ [(⟨t610, t611, t612, t613⟩ : S39)]) x8_2 (wrap64 (x9_3 + 1)) t587 t588 t589) else (none)) = some r := H
            have A54 := Aside0.mk A540
            clear A540
            by_cases c55 : x7_3.length < 4398046511104
            ·rw [if_pos c55] at H
             have LMc55 := Aside0.mk c55
             clear c55
             obtain ⟨y614, hy614⟩ : ∃ y_ : List (S39), y_ = (x7_3 ++ [(⟨t610, t611, t612, t613⟩ : S39)]) := ⟨_, rfl⟩
             replace H : (laws_FnRasAt.l1 k3 y614 x8_2 (wrap64 (x9_3 + 1)) t587 t588 t589) = some r := by first | (rw [hy614]; with_reducible exact H) | (have H2_ := (Option.bind_some _ _).symm.trans H; rw [hy614]; with_reducible exact H2_) | (have H2_ := (Option.bind_some _ _).symm.trans H; with_reducible exact H2_) | with_reducible exact H | (rw [hy614]; exact H) | exact H
             have Ny614 := Aside0.mk hy614
             clear hy614
             have H' := Aside0.mk H
             clear H
             have hnb56 := NB594_599.out
             have hnc56 := NB599_594.out
             have hcz57_0 : wr.cell? ⟨gb594, 0, none⟩ = some (.int .i64 t587) := (blk_cell BK594.out 0).trans rfl
             have hcz57_1 : wr.cell? ⟨gb594, 1, none⟩ = some (.int .i64 t588) := (blk_cell BK594.out 1).trans rfl
             have hcz57_2 : wr.cell? ⟨gb594, 2, none⟩ = some (.slice Ao11 t589.length co11) := (blk_cell BK594.out 2).trans rfl
             have hfz57_0 := blk_frozen BK594.out 0
             have hfz57_1 := blk_frozen BK594.out 1
             have hfz57_2 := blk_frozen BK594.out 2
             go_wp2_with (first | ((with_reducible refine gate_callee (f := 35) rfl ?_); refine goesL_ (some 75) rfl rfl Try.func35 (by kernel_rfl) rfl #[.agg #[.int .i64 t587, .int .i64 t588, .slice Ao11 t589.length co11], .int .i64 x9_3, .int .i64 x8_2] rfl (by (try simp only [List.map_toArray, List.map_cons, List.map_nil]); first | done | rfl | (simp only [List.length_drop, List.length_take]; rfl)) ?_; (with_reducible refine (impl_RasAt.calls k3 t587 t588 _ _ t589 x9_3 x8_2 t610 t611 t612 t613 _ ?side1 ?side2 A54.out).mono ?_); (case side1 => repeat (first | exact (Kd.Q_reads' HO_595002.out).2.2 | (with_reducible refine Kd.C_alloc ?_ _) | (with_reducible refine Kd.C_drewN ?_ _) | (with_reducible refine Kd.C_drew ?_))); (case side2 => exact (Kd.Q_reads' HO_595002.out).2.1); rintro e w58 ⟨rfl, hb⟩; refine ⟨_, rfl, ?_⟩; have n0_ := Aside0.mk (Kd.R_below (by (with_reducible repeat (first | apply Kd.R_alloc | apply Kd.R_drewN | apply Kd.R_drew)); exact HO_7.out) hb); have n1_ := Aside0.mk (Kd.Q_below (by (with_reducible repeat (first | apply Kd.Q_alloc | apply Kd.Q_drewN | apply Kd.Q_drew)); exact HO_595002.out) hb); have n2_ := Aside0.mk (blk_below (g := gb594) (o := .cells #[.int .i64 t587, .int .i64 t588, .slice Ao11 t589.length co11] 36 (0, 0)) (by (with_reducible repeat (first | refine blk_drewN ?_ _ | refine blk_drew ?_ | refine blk_alloc ?_ _)); exact BK594.out) hb); have n3_ := Aside0.mk (blk_below (g := gb599) (o := .cells #[.int .i64 t595, .int .i64 t596, .int .i64 t597, .int .i64 t598] 39 (0, 0)) (by (with_reducible repeat (first | refine blk_drewN ?_ _ | refine blk_drew ?_ | refine blk_alloc ?_ _)); exact BK599.out) hb); have n4_ := Aside0.mk (below_step (by repeat (first | (with_reducible first | exact HB.out | apply below_alloc | apply pw_below_drewN | apply below_drew1 | refine below_set ?_ GE594.out | refine below_set ?_ GE599.out) | exact HB.out)) hb); clear HO_7; clear HO_595002; clear BK594; clear BK599; clear HB; have HO_7 := n0_; have HO_595002 := n1_; have BK594 := n2_; have BK599 := n3_; have HB := n4_; clear n0_ n1_ n2_ n3_ n4_; (try clear hb); (try clear hb2); (try clear hk); (try clear hi)) | ((with_reducible refine gate_builtin (b := .append) (xs := #[.tmp 71, .tmp 76]) rfl ?_); at_builtin; refine Kd.R_append k39 (w0 := w) w.heap.size rfl (.tmp 71) (.tmp 76) 34 39 (.agg #[(.int .i64 0), (.int .i64 0), (.int .i64 0), (.int .i64 0)]) 32 rfl Try.underlying34 info39 rfl (by decide) (by omega) u7 x7_3 (⟨t610, t611, t612, t613⟩ : S39) [.int .i64 t610, .int .i64 t611, .int .i64 t612, .int .i64 t613] (fun k_ => some k_ ≠ (.slice Ao11 t589.length co11 : Value).ownBlock ∧ k_ ≠ gb599) (fun _ => False) rfl rfl ?aP (fun _ hk => hk.elim) ?aF ?aO ?aB ?aS ?aL ?_; (case aP => exact k39_mkM _ _ _ (⟨t610, t611, t612, t613⟩ : S39)); (case aB => exact (by repeat (first | (with_reducible first | exact HB.out | apply below_alloc | apply pw_below_drewN | apply below_drew1 | refine below_set ?_ GE594.out | refine below_set ?_ GE599.out) | exact HB.out))); (case aF => exact (fun k_ hk => ⟨Kd.fresh' (Kd.Q_lt (by (with_reducible repeat (first | apply Kd.Q_alloc | apply Kd.Q_drewN | apply Kd.Q_drew)); exact HO_595002.out)) k_ hk, Kd.freshB (g := gb599) (o := .cells #[.int .i64 t595, .int .i64 t596, .int .i64 t597, .int .i64 t598] 39 (0, 0)) (by (with_reducible repeat (first | refine blk_drewN ?_ _ | refine blk_drew ?_ | refine blk_alloc ?_ _)); exact BK599.out) k_ hk⟩)); (case aO => exact (by (with_reducible repeat (first | apply Kd.R_alloc | apply Kd.R_drewN | apply Kd.R_drew)); exact HO_7.out)); (case aS => exact (below_size (by repeat (first | (with_reducible first | exact HB.out | apply below_alloc | apply pw_below_drewN | apply below_drew1 | refine below_set ?_ GE594.out | refine below_set ?_ GE599.out) | exact HB.out)))); (case aL => have := LMc55.out; omega); intro v615 w59 ho hb hg hat; rw [← Ny614.out] at ho; have n0_ := Aside0.mk (Kd.Q_after (ok := (fun k_ => k_ ≠ gb599)) (by (with_reducible repeat (first | apply Kd.Q_alloc | apply Kd.Q_drewN | apply Kd.Q_drew)); exact Kd.Q_mono HO_595002.out (fun _ hk => ⟨hk.2, hk.1⟩)) hg hat); have n1_ := Aside0.mk (blk_grown (g := gb594) (o := .cells #[.int .i64 t587, .int .i64 t588, .slice Ao11 t589.length co11] 36 (0, 0)) (by (with_reducible repeat (first | refine blk_drewN ?_ _ | refine blk_drew ?_ | refine blk_alloc ?_ _)); exact BK594.out) hg (Kd.R_ne HO_7.out BK594.out (by decide))); have n2_ := Aside0.mk (blk_grown (g := gb599) (o := .cells #[.int .i64 t595, .int .i64 t596, .int .i64 t597, .int .i64 t598] 39 (0, 0)) (by (with_reducible repeat (first | refine blk_drewN ?_ _ | refine blk_drew ?_ | refine blk_alloc ?_ _)); exact BK599.out) hg (Kd.R_away HO_7.out (fun _ hk => hk.2))); have n3_ := Aside0.mk (hb); have n4_ := Aside0.mk (ho); clear HO_595002; clear BK594; clear BK599; clear HB; clear HO_7; have HO_595002 := n0_; have BK594 := n1_; have BK599 := n2_; have HB := n3_; have HO616 := n4_; clear n0_ n1_ n2_ n3_ n4_; clear ho hb hg hat))
             go_roundg k3
             case measure => have := HJ6.out; have := HK2.out; have := HK3.out; omega
             case rel => exact ⟨(y614), (wrap64 (x9_3 + 1)), (by first | rfl | (simp; done) | (simp [*]; done)), H', ⟨by have := HJ6.out; have := HK2.out; have := HK3.out; omega⟩, ⟨by (with_reducible repeat (first | apply Kd.R_alloc | apply Kd.R_drewN | apply Kd.R_drew)); exact HO616.out⟩, ⟨by (with_reducible repeat (first | apply Kd.Q_alloc | apply Kd.Q_drewN | apply Kd.Q_drew)); exact Kd.Q_mono HO_595002.out (fun _ hk => ⟨hk.2, hk.1⟩)⟩, ⟨by (with_reducible repeat (first | refine blk_drewN ?_ _ | refine blk_drew ?_ | refine blk_alloc ?_ _)); exact BK594.out⟩, ⟨by (with_reducible repeat (first | refine blk_drewN ?_ _ | refine blk_drew ?_ | refine blk_alloc ?_ _)); exact BK599.out⟩, ⟨by repeat (first | (with_reducible first | exact HB.out | apply below_alloc | apply pw_below_drewN | apply below_drew1 | refine below_set ?_ GE594.out | refine below_set ?_ GE599.out) | exact HB.out)⟩⟩
            ·rw [if_neg c55] at H
             exact absurd H (by simp)
           ·rw [if_neg c53] at H
            have c53b0 : decide (x9_3 < t587) = false := decide_eq_false c53
            clear c53
            have H' := Aside0.mk H
            clear H
            have hnb60 := NB594_599.out
            have hnc60 := NB599_594.out
            have hcz61_0 : wr.cell? ⟨gb594, 0, none⟩ = some (.int .i64 t587) := (blk_cell BK594.out 0).trans rfl
            have hcz61_1 : wr.cell? ⟨gb594, 1, none⟩ = some (.int .i64 t588) := (blk_cell BK594.out 1).trans rfl
            have hcz61_2 : wr.cell? ⟨gb594, 2, none⟩ = some (.slice Ao11 t589.length co11) := (blk_cell BK594.out 2).trans rfl
            have hfz61_0 := blk_frozen BK594.out 0
            have hfz61_1 := blk_frozen BK594.out 1
            have hfz61_2 := blk_frozen BK594.out 2
            go_wp2
            go_roundg k3
            case measure => have := HJ6.out; have := HK2.out; have := HK3.out; omega
            case rel => exact ⟨(x7_3), (wrap64 (x8_2 + 1)), (by first | rfl | (simp; done) | (simp [*]; done)), H', ⟨by have := HJ6.out; have := HK2.out; have := HK3.out; omega⟩, ⟨by (with_reducible repeat (first | apply Kd.R_alloc | apply Kd.R_drewN | apply Kd.R_drew)); exact HO_7.out⟩, ⟨by (with_reducible repeat (first | apply Kd.Q_alloc | apply Kd.Q_drewN | apply Kd.Q_drew)); exact HO_595002.out⟩, ⟨by (with_reducible repeat (first | refine blk_drewN ?_ _ | refine blk_drew ?_ | refine blk_alloc ?_ _)); exact BK594.out⟩, ⟨by (with_reducible repeat (first | refine blk_drewN ?_ _ | refine blk_drew ?_ | refine blk_alloc ?_ _)); exact BK599.out⟩, ⟨by repeat (first | (with_reducible first | exact HB.out | apply below_alloc | apply pw_below_drewN | apply below_drew1 | refine below_set ?_ GE594.out | refine below_set ?_ GE599.out) | exact HB.out)⟩⟩
        ·rw [if_neg c50] at H
         have c50b0 : decide (x8_2 < t588) = false := decide_eq_false c50
         clear c50
         replace H := Option.bind_eq_some_iff.mp H
         obtain ⟨t609, A620, H⟩ := H
         replace H : (some t609) = some r := H
         have A62 := Aside0.mk A620
         clear A620
         obtain rfl := Option.some.inj H
         have hnb63 := NB594_599.out
         have hnc63 := NB599_594.out
         have hcz64_0 : wr.cell? ⟨gb594, 0, none⟩ = some (.int .i64 t587) := (blk_cell BK594.out 0).trans rfl
         have hcz64_1 : wr.cell? ⟨gb594, 1, none⟩ = some (.int .i64 t588) := (blk_cell BK594.out 1).trans rfl
         have hcz64_2 : wr.cell? ⟨gb594, 2, none⟩ = some (.slice Ao11 t589.length co11) := (blk_cell BK594.out 2).trans rfl
         have hfz64_0 := blk_frozen BK594.out 0
         have hfz64_1 := blk_frozen BK594.out 1
         have hfz64_2 := blk_frozen BK594.out 2
         obtain ⟨Ao65, co65, eo65⟩ := Kd.R_slice HO_7.out
         subst eo65
         go_wp2_with (first | ((with_reducible refine gate_callee (f := 37) rfl ?_); refine goesL_ (some 85) rfl rfl Try.func37 (by kernel_rfl) rfl #[.agg #[.int .i64 t587, .int .i64 t588, .slice Ao65 x7_2.length co65], .agg #[.int .i64 t587, .int .i64 t588, .slice Ao11 t589.length co11]] rfl (by (try simp only [List.map_toArray, List.map_cons, List.map_nil]); first | done | rfl | (simp only [List.length_drop, List.length_take]; rfl)) ?_; (with_reducible refine (laws_eaRas.calls k2 t587 t588 _ _ x7_2 t587 t588 _ _ t589 t609 _ ?side1 ?side2 ?side3 ?side4 A62.out).mono ?_); (case side1 => repeat (first | exact (Kd.R_reads' HO_7.out).2.2 | (with_reducible refine Kd.C_alloc ?_ _) | (with_reducible refine Kd.C_drewN ?_ _) | (with_reducible refine Kd.C_drew ?_))); (case side2 => exact (Kd.R_reads' HO_7.out).2.1); (case side3 => repeat (first | exact (Kd.Q_reads' HO_595002.out).2.2 | (with_reducible refine Kd.C_alloc ?_ _) | (with_reducible refine Kd.C_drewN ?_ _) | (with_reducible refine Kd.C_drew ?_))); (case side4 => exact (Kd.Q_reads' HO_595002.out).2.1); rintro e w66 ⟨rfl, hb⟩; refine ⟨_, rfl, ?_⟩; have n0_ := Aside0.mk (Kd.R_below (by (with_reducible repeat (first | apply Kd.R_alloc | apply Kd.R_drewN | apply Kd.R_drew)); exact HO_7.out) hb); have n1_ := Aside0.mk (Kd.Q_below (by (with_reducible repeat (first | apply Kd.Q_alloc | apply Kd.Q_drewN | apply Kd.Q_drew)); exact HO_595002.out) hb); have n2_ := Aside0.mk (blk_below (g := gb594) (o := .cells #[.int .i64 t587, .int .i64 t588, .slice Ao11 t589.length co11] 36 (0, 0)) (by (with_reducible repeat (first | refine blk_drewN ?_ _ | refine blk_drew ?_ | refine blk_alloc ?_ _)); exact BK594.out) hb); have n3_ := Aside0.mk (blk_below (g := gb599) (o := .cells #[.int .i64 t595, .int .i64 t596, .int .i64 t597, .int .i64 t598] 39 (0, 0)) (by (with_reducible repeat (first | refine blk_drewN ?_ _ | refine blk_drew ?_ | refine blk_alloc ?_ _)); exact BK599.out) hb); have n4_ := Aside0.mk (below_step (by repeat (first | (with_reducible first | exact HB.out | apply below_alloc | apply pw_below_drewN | apply below_drew1 | refine below_set ?_ GE594.out | refine below_set ?_ GE599.out) | exact HB.out)) hb); clear HO_7; clear HO_595002; clear BK594; clear BK599; clear HB; have HO_7 := n0_; have HO_595002 := n1_; have BK594 := n2_; have BK599 := n3_; have HB := n4_; clear n0_ n1_ n2_ n3_ n4_; (try clear hb); (try clear hb2); (try clear hk); (try clear hi)))
         go_ret
         exact ⟨by first | rfl | (simp [errW_none, errW_some] <;> rfl) | (simp [*, errW_none, errW_some] <;> rfl), by repeat (first | (with_reducible first | exact HB.out | apply below_alloc | apply pw_below_drewN | apply below_drew1 | refine below_set ?_ GE594.out | refine below_set ?_ GE599.out) | exact HB.out)⟩

/-- THE ONE PURE STATEMENT of laws_FnRasAt: yours. -/
def laws_FnRasAt.Pure : Prop := ∀ (l0 : List Int), l0.length ≤ maxLen → l0.length * 1 ≤ 140737488351232 → (∀ x ∈ l0, (Lit.int .u8 x).wf = true) → ∃ k, laws_FnRasAt.f k l0 = some true
theorem laws_FnRasAt.walk (P : laws_FnRasAt.Pure) (a0 : Option Addr) (len0 cap0 : Nat) (z0 : List Int) (w : World) (w0 : (a0 = none ∧ len0 = 0 ∧ cap0 = 0 ∧ z0 = []) ∨ ∃ x, a0 = some x ∧ len0 ≤ cap0 ∧ cap0 ≤ maxLen ∧ z0.length = cap0 ∧ (∀ i, i < z0.length → w.cell? (x.add i) = some (.int .u8 (z0.getD i 0))) ∧ ∀ n ∈ z0, (Lit.int .u8 n).wf = true) (y0 : len0 * 1 ≤ 140737488351232) :
  Calls Try.prog 8 #[.slice a0 len0 cap0] w fun e w' => e = .returned (.bool true) ∧ Below w.heap.size w w' := by
 obtain ⟨l0, rfl, hr0, hm0, hw0, hc0⟩ := ReadsInt.ofRowC w0
 obtain ⟨k, h⟩ := P l0 hm0 y0 hw0
 refine (laws_FnRasAt.calls k _ _ l0 true w (Kd.C_of_reads (d := (0 : Int)) (h1 := fun _ => rfl) hr0) hc0 h).mono ?_
 rintro e w' ⟨rfl, hd⟩
 exact ⟨rfl, hd⟩

end Go.Proofs.Ytmkiajoanblkbaa.X
