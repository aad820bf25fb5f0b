/- What functions of the program come to, each with its proof. No condition but what each theorem states. -/
import Derived.Test.YtjkaalcocgioaaaX0
import Derived.Test.YtjkaalcocgioaaaX27
import Derived.Test.YtjkaalcocgioaaaX31
namespace Go.Proofs.Ytjkaalcocgioaaa.X
open Go.RowKit Go.Proofs.YtjkaalcocgioaaaW.PrintWords Go.Proofs.YtjkaalcocgioaaaW.PrintLast Go.Proofs.YtjkaalcocgioaaaW.PrintMore Go.Proofs.Ytjkaalcocgioaaa.Hyb
attribute [local go_sem] max2_int min2_int max_two min_two max_three min_three max_four min_four
set_option linter.unusedVariables false
set_option linter.unusedSimpArgs false

/-! ### spec_OpsFold: function 13 -/
def spec_OpsFold.l0 : Nat → List (S25) → Bool → Option ((List (S25)))
 | 0, _, _ => none
 | k + 1, x3, x4 => if x4 = true then ((spec_l6Fold.f k x3).bind fun aK => (spec_OpsFold.l0 k aK.1 aK.2)) else (some x3)
def spec_OpsFold.f (k : Nat) (l0 : List (S25)) : Option ((List (S25))) := (spec_l6All.f k l0).bind fun aD => (if aD = true then ((some (([] : List (S25)) : List (S25))).bind fun aA => (if aA.length + l0.length < 3518437208883 then (spec_OpsFold.l0 k (aA ++ l0) true) else (none))) else (some (([] : List (S25)))))
theorem spec_OpsFold.mono_l : ∀ k, (∀ y0 y1, LeO (spec_OpsFold.l0 k y0 y1) (spec_OpsFold.l0 (k + 1) y0 y1))
 | 0 => (fun _ _ r h => nomatch (show none = some r from h))
 | k + 1 => by
  have ih0 := spec_OpsFold.mono_l k
  ·intro y0 y1
   unfold spec_OpsFold.l0
   repeat' first
   | (with_reducible exact ih0 _ _)
   | (with_reducible exact spec_l6All.mono _ _)
   | (with_reducible exact spec_l6Fold.mono _ _)
   | (with_reducible exact LeO.refl _)
   | (with_reducible exact LeO.none _)
   | (with_reducible refine LeO.ite ?_ ?_)
   | (with_reducible refine LeO.bind ?_ (fun _ => ?_))
   | exact ih0 _ _
   | exact spec_l6All.mono _ _
   | exact spec_l6Fold.mono _ _
   | exact LeO.none _
   | refine LeO.ite ?_ ?_
   | refine LeO.bind ?_ (fun _ => ?_)
theorem spec_OpsFold.mono : ∀ a0 k, LeO (spec_OpsFold.f k a0) (spec_OpsFold.f (k + 1) a0) := by
 intro a0 k
 have ih0 := spec_OpsFold.mono_l k
 unfold spec_OpsFold.f
 repeat' first
   | (with_reducible exact ih0 _ _)
   | (with_reducible exact spec_l6All.mono _ _)
   | (with_reducible exact spec_l6Fold.mono _ _)
   | (with_reducible exact LeO.refl _)
   | (with_reducible exact LeO.none _)
   | (with_reducible refine LeO.ite ?_ ?_)
   | (with_reducible refine LeO.bind ?_ (fun _ => ?_))
   | exact ih0 _ _
   | exact spec_l6All.mono _ _
   | exact spec_l6Fold.mono _ _
   | exact LeO.none _
   | refine LeO.ite ?_ ?_
   | refine LeO.bind ?_ (fun _ => ?_)
set_option maxHeartbeats 8000000 in
set_option maxRecDepth 100000 in
theorem spec_OpsFold.calls (k : Nat) (A0 : Option Addr) (c0 : Nat) (l0 : List (S25)) (r : List (S25)) (w : World) (hr0 : Kd.C k25 w A0 l0.length l0) (bD : l0.length ≤ c0) (h : spec_OpsFold.f k l0 = some r) :
  Calls Try.prog 13 #[.slice A0 l0.length c0] w fun e w' => ∃ bE : Value, e = .returned (bE) ∧ Kd.R k25 25 w' w.heap.size (fun _ => True) bE r ∧ Below w.heap.size w w' := by
 have aY := Aside0.mk hr0
 have bC := Aside0.mk bD
 clear hr0 bD
 have HB := Aside0.mk (Below.refl w.heap.size w)
 have H : ((spec_l6All.f k l0).bind fun aD => (if aD = true then ((some (([] : List (S25)) : List (S25))).bind fun aA => (if aA.length + l0.length < 3518437208883 then (spec_OpsFold.l0 k (aA ++ l0) true) else (none))) else (some (([] : List (S25)))))) = some r := h
 clear h
 replace H := Option.bind_eq_some_iff.mp H
 obtain ⟨aD, bB, H⟩ := H
 (try dsimp only at H)
 have A2 := Aside0.mk bB
 clear bB
 by_cases c3 : aD = true
 ·subst c3
  rw [if_pos rfl] at H
  obtain ⟨aA, hy366⟩ : ∃ y_ : List (S25), y_ = (([] : List (S25))) := ⟨_, rfl⟩
  replace H : (if aA.length + l0.length < 3518437208883 then (spec_OpsFold.l0 k (aA ++ l0) true) else (none)) = some r := by first | (rw [hy366]; with_reducible exact H) | (have H2_ := (Option.bind_some _ _).symm.trans H; rw [hy366]; with_reducible exact H2_) | (have H2_ := (Option.bind_some _ _).symm.trans H; with_reducible exact H2_) | with_reducible exact H | (rw [hy366]; exact H) | exact H
  have aJ := Aside0.mk hy366
  clear hy366
  by_cases c4 : aA.length + l0.length < 3518437208883
  ·rw [if_pos c4] at H
   have LMc4 := Aside0.mk c4
   clear c4
   obtain ⟨y369, hy369⟩ : ∃ y_ : List (S25), y_ = (aA ++ l0) := ⟨_, rfl⟩
   replace H : (spec_OpsFold.l0 k y369 true) = some r := by first | (rw [hy369]; with_reducible exact H) | (have H2_ := (Option.bind_some _ _).symm.trans H; rw [hy369]; with_reducible exact H2_) | (have H2_ := (Option.bind_some _ _).symm.trans H; with_reducible exact H2_) | with_reducible exact H | (rw [hy369]; exact H) | exact H
   have aV := Aside0.mk hy369
   clear hy369
   have H' := Aside0.mk H
   clear H
   go_enter Try.func13, Try.ntmps13
   go_wp2_with (first | ((with_reducible refine gate_callee (f := 29) rfl ?_); refine goesL_ (some 6) rfl rfl Try.func29 oK rfl #[.slice A0 l0.length c0] rfl oA ?_; (with_reducible refine (spec_l6All.calls k _ _ l0 true _ ?side1 ?side2 A2.out).mono ?_); (case side1 => repeat (first | exact aY.out | (with_reducible refine Kd.C_alloc ?_ _) | (with_reducible refine Kd.C_drewN ?_ _) | (with_reducible refine Kd.C_drew ?_))); (case side2 => exact bC.out); rintro e w5 ⟨rfl, hb⟩; refine ⟨_, rfl, ?_⟩; replace HB := o1_ (below_step (oB HB) hb); (try clear hb); (try clear hb2); (try clear hk); (try clear hi)) | ((with_reducible refine gate_dst (N := 9) rfl ?_); refine Kd.R_lit k25 _ 25 ?hg (N := 9) ?hd (xs := ([] : List (S25))) (inner := []) (ok := fun _ => True) (okp := fun _ => True) ?hr ?hp (fun _ hk => hk) trivial (Below.refl _ _) (Nat.le_refl _) (by simp) ?_; (case hd => rfl); (case hg => rfl); (case hr => first | (go_simp; done) | (go_simp; rfl)); (case hp => exact (Reps.none _ _)); intro bA w6 ho7 hb hg_ hnew_; clear hg_ hnew_; (first | rw [← aJ.out] at ho7 | (simp only [Int.reduceToNat] at ho7; rw [← aJ.out] at ho7)); have n_ := o2_ (Kd.R_lower ho7 (below_size (oB HB))) (o1_ (below_step (oB HB) hb)); clear HB; obtain ⟨aH, HB⟩ := n_; clear hb ho7) | ((with_reducible refine gate_builtin (b := .append) (xs := #[.tmp 9, .tmp 10]) rfl ?_); at_builtin; refine Kd.R_append_rows k25 (w0 := w) w.heap.size rfl (.tmp 9) (.tmp 10) 23 25 (.agg #[(.int .i64 0), (.int .i64 0), (.int .i64 0), (.int .i64 0), (.int .i64 0)]) 40 rfl Try.underlying23 info25 rfl oD (by omega) bA aA l0 _ _ _ (fun _ => True) (fun _ => False) rfl rfl ?aO ?aR (fun _ _ h => h) (fun _ h => h.elim) ?aF ?aB ?aS ?aL ?_; (case aR => repeat (first | exact (Kd.C_below aY.out HB.out) | (with_reducible refine Kd.C_alloc ?_ _) | (with_reducible refine Kd.C_drewN ?_ _) | (with_reducible refine Kd.C_drew ?_))); (case aB => exact (oB HB)); (case aF => exact (fun _ _ => trivial)); (case aO => exact (oR aH)); (case aS => exact (below_size (oB HB))); (case aL => have := LMc4.out; omega); intro bH w8 ho hb hg hat; rw [← aV.out] at ho; have n_ := o2_ (hb) (o1_ (ho)); clear HB aH; obtain ⟨HB, aT⟩ := n_; clear ho hb hg hat))
   go_loopg [3, 4] k (fun kq v3 v4 w' => ∃ (aC : List (S25)) (aG : Bool), v4 = .bool aG ∧ Aside0 (spec_OpsFold.l0 kq aC aG = some r) ∧ Aside0 (kq ≤ k) ∧ Aside0 (Kd.R k25 25 w' w.heap.size (fun _ => True) v3 aC) ∧ Aside0 (Below w.heap.size w w'))
   case atStart => exact ⟨(y369), (true), oU, H', ⟨Nat.le_refl _⟩, ⟨(oR aT)⟩, ⟨(oB HB)⟩⟩
   case round =>
    clear H'
    try clear c1
    try clear c2
    try clear p2
    try clear c3
    try clear c4
    obtain ⟨aC, aG, rfl, HA, HK1, aE, HB⟩ := hrel
    cases gk with
    | zero => exact nomatch (show none = some _ from HA.out)
    | succ k1 =>
     have H := HA.out
     clear HA
     simp only [spec_OpsFold.l0] at H
     by_cases c9 : aG = true
     ·subst c9
      rw [if_pos rfl] at H
      replace H := Option.bind_eq_some_iff.mp H
      obtain ⟨⟨aW, aX⟩, aP, H⟩ := H
      (try dsimp only at H)
      have bF := Aside0.mk aP
      clear aP
      have H' := Aside0.mk H
      clear H
      obtain ⟨aM, aN, aZ⟩ := Kd.R_slice aE.out
      subst aZ
      go_wp2_with (first | ((with_reducible refine gate_callee (f := 30) rfl ?_); refine goesL_ (some 15) rfl rfl Try.func30 oK rfl #[.slice aM aC.length aN] rfl oA ?_; (with_reducible refine (spec_l6Fold.calls k1 (fun k_ => some k_ = (.slice aM aC.length aN : Value).ownBlock) (.slice aM aC.length aN) aC aW aX w _ ?side1 ?side2 bF.out).mono ?_); (case side1 => exact oB HB); (case side2 => exact Kd.R_tight rfl aE.out); rintro e bJ ⟨bI, rfl, ho0, hb, hkp⟩; refine ⟨_, rfl, ?_⟩; have n_ := o2_ (Kd.R_mono (ok' := fun k_ => True) ho0 (fun k_ hk_ => trivial)) (o1_ (hb)); clear HB aE; obtain ⟨aU, HB⟩ := n_; (try clear hb); (try clear hkp); (try clear ho0)))
      go_roundg k1
      case measure => have := HK1.out; omega
      case rel => exact ⟨(aW), (aX), oU, H', ⟨(by have := HK1.out; omega)⟩, ⟨(oR aU)⟩, ⟨(oB HB)⟩⟩
     ·replace c9 := Bool.eq_false_iff.mpr c9
      subst c9
      rw [if_neg (show ¬ (false = true) by decide)] at H
      obtain rfl := Option.some.inj H
      go_wp2
      go_ret
      exact ⟨_, by first | rfl | (simp [errW_none, errW_some] <;> rfl) | (simp [*, errW_none, errW_some] <;> rfl), by (with_reducible repeat (first | apply Kd.R_alloc | apply Kd.R_drewN | apply Kd.R_drew)); exact aE.out, oB HB⟩
  ·rw [if_neg c4] at H
   exact absurd H (by simp)
 ·replace c3 := Bool.eq_false_iff.mpr c3
  subst c3
  rw [if_neg (show ¬ (false = true) by decide)] at H
  obtain ⟨y363, hy363⟩ : ∃ y_ : List (S25), y_ = (([] : List (S25))) := ⟨_, rfl⟩
  replace H : (some y363) = some r := by first | (rw [hy363]; with_reducible exact H) | (have H2_ := (Option.bind_some _ _).symm.trans H; rw [hy363]; with_reducible exact H2_) | (have H2_ := (Option.bind_some _ _).symm.trans H; with_reducible exact H2_) | with_reducible exact H | (rw [hy363]; exact H) | exact H
  have aI := Aside0.mk hy363
  clear hy363
  obtain rfl := Option.some.inj H
  go_enter Try.func13, Try.ntmps13
  go_wp2_with (first | ((with_reducible refine gate_callee (f := 29) rfl ?_); refine goesL_ (some 6) rfl rfl Try.func29 oK rfl #[.slice A0 l0.length c0] rfl oA ?_; (with_reducible refine (spec_l6All.calls k _ _ l0 false _ ?side1 ?side2 A2.out).mono ?_); (case side1 => repeat (first | exact aY.out | (with_reducible refine Kd.C_alloc ?_ _) | (with_reducible refine Kd.C_drewN ?_ _) | (with_reducible refine Kd.C_drew ?_))); (case side2 => exact bC.out); rintro e bK ⟨rfl, hb⟩; refine ⟨_, rfl, ?_⟩; replace HB := o1_ (below_step (oB HB) hb); (try clear hb); (try clear hb2); (try clear hk); (try clear hi)) | ((with_reducible refine gate_dst (N := 8) rfl ?_); refine Kd.R_lit k25 _ 25 ?hg (N := 8) ?hd (xs := ([] : List (S25))) (inner := []) (ok := fun _ => True) (okp := fun _ => True) ?hr ?hp (fun _ hk => hk) trivial (Below.refl _ _) (Nat.le_refl _) (by simp) ?_; (case hd => rfl); (case hg => rfl); (case hr => first | (go_simp; done) | (go_simp; rfl)); (case hp => exact (Reps.none _ _)); intro bG bL ho15 hb hg_ hnew_; clear hg_ hnew_; (first | rw [← aI.out] at ho15 | (simp only [Int.reduceToNat] at ho15; rw [← aI.out] at ho15)); have n_ := o2_ (Kd.R_lower ho15 (below_size (oB HB))) (o1_ (below_step (oB HB) hb)); clear HB; obtain ⟨aQ, HB⟩ := n_; clear hb ho15))
  go_ret
  exact ⟨_, by first | rfl | (simp [errW_none, errW_some] <;> rfl) | (simp [*, errW_none, errW_some] <;> rfl), by (with_reducible repeat (first | apply Kd.R_alloc | apply Kd.R_drewN | apply Kd.R_drew)); exact aQ.out, oB HB⟩

end Go.Proofs.Ytjkaalcocgioaaa.X
