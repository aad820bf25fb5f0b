/- What functions of the program come to, each with its proof. No condition but what each theorem states. -/
import Derived.Test.YtjkaalcocgioaaaX0
namespace Go.Proofs.Ytjkaalcocgioaaa.X
open Go.RowKit Go.Proofs.YtjkaalcocgioaaaW.PrintWords Go.Proofs.YtjkaalcocgioaaaW.PrintLast Go.Proofs.YtjkaalcocgioaaaW.PrintMore Go.Proofs.Ytjkaalcocgioaaa.Hyb
attribute [local go_sem] max2_int min2_int max_two min_two max_three min_three max_four min_four
set_option linter.unusedVariables false
set_option linter.unusedSimpArgs false

/-! ### spec_l6Put: function 43 -/
def spec_l6Put.f (l0 : List (S25)) (a1 : Int) (a2 : Int) (l3 : List (S25)) : Option ((List (S25))) := (some (([] : List (S25)) : List (S25))).bind fun aG => (if 0 ≤ a1 then (if a1 ≤ (l0.length : Int) then ((some (l0.take (a1 : Int).toNat : List (S25))).bind fun aE => (if aG.length + aE.length < 3518437208883 then ((some (aG ++ aE : List (S25))).bind fun aD => (if aD.length + l3.length < 3518437208883 then ((some (aD ++ l3 : List (S25))).bind fun aC => (if 0 ≤ (wrap64 (a1 + a2)) then (if (wrap64 (a1 + a2)) ≤ (l0.length : Int) then ((some (l0.drop ((wrap64 (a1 + a2)) : Int).toNat : List (S25))).bind fun aA => (if aC.length + aA.length < 3518437208883 then (some (aC ++ aA)) else (none))) else (none)) else (none))) else (none))) else (none))) else (none)) else (none))
set_option maxHeartbeats 8000000 in
set_option maxRecDepth 100000 in
theorem spec_l6Put.calls (A0 : Option Addr) (c0 : Nat) (l0 : List (S25)) (a1 : Int) (a2 : Int) (A3 : Option Addr) (c3 : Nat) (l3 : List (S25)) (r : List (S25)) (w : World) (hr0 : Kd.C k25 w A0 l0.length l0) (bO : l0.length ≤ c0) (hr3 : Kd.C k25 w A3 l3.length l3) (bP : l3.length ≤ c3) (h : spec_l6Put.f l0 a1 a2 l3 = some r) :
  Calls Try.prog 43 #[.slice A0 l0.length c0, .int .i64 a1, .int .i64 a2, .slice A3 l3.length c3] w fun e w' => ∃ bR : Value, e = .returned (bR) ∧ Kd.R k25 25 w' w.heap.size (fun _ => True) bR r ∧ Below w.heap.size w w' := by
 have bJ := Aside0.mk hr0
 have bG := Aside0.mk bO
 clear hr0 bO
 have bS := Aside0.mk hr3
 have bY := Aside0.mk bP
 clear hr3 bP
 have HB := Aside0.mk (Below.refl w.heap.size w)
 have H : ((some (([] : List (S25)) : List (S25))).bind fun aG => (if 0 ≤ a1 then (if a1 ≤ (l0.length : Int) then ((some (l0.take (a1 : Int).toNat : List (S25))).bind fun aE => (if aG.length + aE.length < 3518437208883 then ((some (aG ++ aE : List (S25))).bind fun aD => (if aD.length + l3.length < 3518437208883 then ((some (aD ++ l3 : List (S25))).bind fun aC => (if 0 ≤ (wrap64 (a1 + a2)) then (if (wrap64 (a1 + a2)) ≤ (l0.length : Int) then ((some (l0.drop ((wrap64 (a1 + a2)) : Int).toNat : List (S25))).bind fun aA => (if aC.length + aA.length < 3518437208883 then (some (aC ++ aA)) else (none))) else (none)) else (none))) else (none))) else (none))) else (none)) else (none))) = some r := h
 clear h
 obtain ⟨aG, hy297⟩ : ∃ y_ : List (S25), y_ = (([] : List (S25))) := ⟨_, rfl⟩
 replace H : (if 0 ≤ a1 then (if a1 ≤ (l0.length : Int) then ((some (l0.take (a1 : Int).toNat : List (S25))).bind fun aE => (if aG.length + aE.length < 3518437208883 then ((some (aG ++ aE : List (S25))).bind fun aD => (if aD.length + l3.length < 3518437208883 then ((some (aD ++ l3 : List (S25))).bind fun aC => (if 0 ≤ (wrap64 (a1 + a2)) then (if (wrap64 (a1 + a2)) ≤ (l0.length : Int) then ((some (l0.drop ((wrap64 (a1 + a2)) : Int).toNat : List (S25))).bind fun aA => (if aC.length + aA.length < 3518437208883 then (some (aC ++ aA)) else (none))) else (none)) else (none))) else (none))) else (none))) else (none)) else (none)) = some r := by first | (rw [hy297]; with_reducible exact H) | (have H2_ := (Option.bind_some _ _).symm.trans H; rw [hy297]; with_reducible exact H2_) | (have H2_ := (Option.bind_some _ _).symm.trans H; with_reducible exact H2_) | with_reducible exact H | (rw [hy297]; exact H) | exact H
 have aK := Aside0.mk hy297
 clear hy297
 by_cases c5 : 0 ≤ a1
 ·rw [if_pos c5] at H
  have bT := eq_true c5
  have bU : decide (0 ≤ a1) = true := decide_eq_true c5
  clear c5
  by_cases c6 : a1 ≤ (l0.length : Int)
  ·rw [if_pos c6] at H
   have bV := eq_true c6
   have bW : decide (a1 ≤ (l0.length : Int)) = true := decide_eq_true c6
   clear c6
   obtain ⟨aE, hy300⟩ : ∃ y_ : List (S25), y_ = (l0.take (a1 : Int).toNat) := ⟨_, rfl⟩
   replace H : (if aG.length + aE.length < 3518437208883 then ((some (aG ++ aE : List (S25))).bind fun aD => (if aD.length + l3.length < 3518437208883 then ((some (aD ++ l3 : List (S25))).bind fun aC => (if 0 ≤ (wrap64 (a1 + a2)) then (if (wrap64 (a1 + a2)) ≤ (l0.length : Int) then ((some (l0.drop ((wrap64 (a1 + a2)) : Int).toNat : List (S25))).bind fun aA => (if aC.length + aA.length < 3518437208883 then (some (aC ++ aA)) else (none))) else (none)) else (none))) else (none))) else (none)) = some r := by first | (rw [hy300]; with_reducible exact H) | (have H2_ := (Option.bind_some _ _).symm.trans H; rw [hy300]; with_reducible exact H2_) | (have H2_ := (Option.bind_some _ _).symm.trans H; with_reducible exact H2_) | with_reducible exact H | (rw [hy300]; exact H) | exact H
   have aM := Aside0.mk hy300
   clear hy300
   by_cases c7 : aG.length + aE.length < 3518437208883
   ·rw [if_pos c7] at H
    have LMc7 := Aside0.mk c7
    clear c7
    obtain ⟨aD, hy304⟩ : ∃ y_ : List (S25), y_ = (aG ++ aE) := ⟨_, rfl⟩
    replace H : (if aD.length + l3.length < 3518437208883 then ((some (aD ++ l3 : List (S25))).bind fun aC => (if 0 ≤ (wrap64 (a1 + a2)) then (if (wrap64 (a1 + a2)) ≤ (l0.length : Int) then ((some (l0.drop ((wrap64 (a1 + a2)) : Int).toNat : List (S25))).bind fun aA => (if aC.length + aA.length < 3518437208883 then (some (aC ++ aA)) else (none))) else (none)) else (none))) else (none)) = some r := by first | (rw [hy304]; with_reducible exact H) | (have H2_ := (Option.bind_some _ _).symm.trans H; rw [hy304]; with_reducible exact H2_) | (have H2_ := (Option.bind_some _ _).symm.trans H; with_reducible exact H2_) | with_reducible exact H | (rw [hy304]; exact H) | exact H
    have aU := Aside0.mk hy304
    clear hy304
    by_cases c8 : aD.length + l3.length < 3518437208883
    ·rw [if_pos c8] at H
     have LMc8 := Aside0.mk c8
     clear c8
     obtain ⟨aC, hy307⟩ : ∃ y_ : List (S25), y_ = (aD ++ l3) := ⟨_, rfl⟩
     replace H : (if 0 ≤ (wrap64 (a1 + a2)) then (if (wrap64 (a1 + a2)) ≤ (l0.length : Int) then ((some (l0.drop ((wrap64 (a1 + a2)) : Int).toNat : List (S25))).bind fun aA => (if aC.length + aA.length < 3518437208883 then (some (aC ++ aA)) else (none))) else (none)) else (none)) = some r := by first | (rw [hy307]; with_reducible exact H) | (have H2_ := (Option.bind_some _ _).symm.trans H; rw [hy307]; with_reducible exact H2_) | (have H2_ := (Option.bind_some _ _).symm.trans H; with_reducible exact H2_) | with_reducible exact H | (rw [hy307]; exact H) | exact H
     have aV := Aside0.mk hy307
     clear hy307
     obtain ⟨ji9, hji9⟩ : ∃ j_ : Int, (wrap64 (a1 + a2)) = j_ := ⟨_, rfl⟩
     replace H : (if 0 ≤ (ji9) then (if (ji9) ≤ (l0.length : Int) then ((some (l0.drop ((ji9) : Int).toNat : List (S25))).bind fun aA => (if aC.length + aA.length < 3518437208883 then (some (aC ++ aA)) else (none))) else (none)) else (none)) = some r := by first | (rw [hji9] at H; exact H) | (simp only [hji9] at H ⊢; exact H)
     have bQ : (IntKind.i64.wrap (a1 + a2)) = ji9 := (i64_w _).trans hji9
     by_cases aX : 0 ≤ (ji9)
     ·rw [if_pos aX] at H
      have bK := eq_true aX
      have bL : decide (0 ≤ (ji9)) = true := decide_eq_true aX
      clear aX
      by_cases aY : (ji9) ≤ (l0.length : Int)
      ·rw [if_pos aY] at H
       have bM := eq_true aY
       have bN : decide ((ji9) ≤ (l0.length : Int)) = true := decide_eq_true aY
       clear aY
       obtain ⟨aA, hy310⟩ : ∃ y_ : List (S25), y_ = (l0.drop ((ji9) : Int).toNat) := ⟨_, rfl⟩
       replace H : (if aC.length + aA.length < 3518437208883 then (some (aC ++ aA)) else (none)) = some r := by first | (rw [hy310]; with_reducible exact H) | (have H2_ := (Option.bind_some _ _).symm.trans H; rw [hy310]; with_reducible exact H2_) | (have H2_ := (Option.bind_some _ _).symm.trans H; with_reducible exact H2_) | with_reducible exact H | (rw [hy310]; exact H) | exact H
       have aN := Aside0.mk hy310
       clear hy310
       by_cases aZ : aC.length + aA.length < 3518437208883
       ·rw [if_pos aZ] at H
        have LMc12 := Aside0.mk aZ
        clear aZ
        obtain ⟨y314, hy314⟩ : ∃ y_ : List (S25), y_ = (aC ++ aA) := ⟨_, rfl⟩
        replace H : (some y314) = some r := by first | (rw [hy314]; with_reducible exact H) | (have H2_ := (Option.bind_some _ _).symm.trans H; rw [hy314]; with_reducible exact H2_) | (have H2_ := (Option.bind_some _ _).symm.trans H; with_reducible exact H2_) | with_reducible exact H | (rw [hy314]; exact H) | exact H
        have aW := Aside0.mk hy314
        clear hy314
        obtain rfl := Option.some.inj H
        go_enter Try.func43, Try.ntmps43
        go_wp2_with (first | ((with_reducible refine gate_dst (N := 10) rfl ?_); refine Kd.R_lit k25 _ 25 ?hg (N := 10) ?hd (xs := ([] : List (S25))) (inner := []) (ok := fun _ => True) (okp := fun _ => True) ?hr ?hp (fun _ hk => hk) trivial (Below.refl _ _) (Nat.le_refl _) (by simp) ?_; (case hd => rfl); (case hg => rfl); (case hr => first | (go_simp; done) | (go_simp; rfl)); (case hp => exact (Reps.none _ _)); intro bD bZ ho14 hb hg_ hnew_; clear hg_ hnew_; (first | rw [← aK.out] at ho14 | (simp only [Int.reduceToNat] at ho14; rw [← aK.out] at ho14)); have n_ := o2_ (Kd.R_lower ho14 (below_size (oB HB))) (o1_ (below_step (oB HB) hb)); clear HB; obtain ⟨aH, HB⟩ := n_; clear hb ho14; have bB : (a1 : Int) ≤ ((l0.length : Int) : Int) := of_decide_eq_true oM; obtain ⟨i015, hi015, _, hsz15, _⟩ := info_parts info25; have hroom15 : l0.length ≤ c0 := bG.out; have hC15 : Kd.C k25 _ A0 l0.length l0 := bJ.out; have hcut15 := cut_to (P := Try.prog) 23 25 .i64 Try.underlying23 hi015 A0 l0.length c0 a1 (of_decide_eq_true oM) bB hroom15; have hr15 := Kd.C_take (m := (a1 : Int).toNat) hC15 (by omega); have hy15 : aE.length = (a1 : Int).toNat := (by rw [aM.out, List.length_take]; omega); rw [← aM.out] at hr15; rw [← hy15] at hcut15; have aQ := Aside0.mk hr15; have bH := Aside0.mk (show aE.length ≤ c0 from by omega); clear hr15 hC15 hroom15 hi015 hsz15; have KY15 := Aside0.mk hy15; clear hy15; replace bB := eq_true bB) | ((with_reducible refine gate_builtin (b := .append) (xs := #[.tmp 10, .tmp 13]) rfl ?_); at_builtin; refine Kd.R_append_rows k25 (w0 := w) w.heap.size rfl (.tmp 10) (.tmp 13) 23 25 (.agg #[(.int .i64 0), (.int .i64 0), (.int .i64 0), (.int .i64 0), (.int .i64 0)]) 40 rfl Try.underlying23 info25 rfl oD (by omega) bD aG aE _ _ _ (fun _ => True) (fun _ => False) rfl rfl ?aO ?aR (fun _ _ h => h) (fun _ h => h.elim) ?aF ?aB ?aS ?aL ?_; (case aR => repeat (first | exact (Kd.C_below aQ.out HB.out) | (with_reducible refine Kd.C_alloc ?_ _) | (with_reducible refine Kd.C_drewN ?_ _) | (with_reducible refine Kd.C_drew ?_))); (case aB => exact (oB HB)); (case aF => exact (fun _ _ => trivial)); (case aO => exact (oR aH)); (case aS => exact (below_size (oB HB))); (case aL => have := LMc7.out; omega); intro bE cA ho hb hg hat; rw [← aU.out] at ho; have n_ := o2_ (hb) (o1_ (ho)); clear HB aH; obtain ⟨HB, aI⟩ := n_; clear ho hb hg hat) | ((with_reducible refine gate_builtin (b := .append) (xs := #[.tmp 15, .tmp 16]) rfl ?_); at_builtin; refine Kd.R_append_rows k25 (w0 := w) w.heap.size rfl (.tmp 15) (.tmp 16) 23 25 (.agg #[(.int .i64 0), (.int .i64 0), (.int .i64 0), (.int .i64 0), (.int .i64 0)]) 40 rfl Try.underlying23 info25 rfl oD (by omega) bE aD l3 _ _ _ (fun _ => True) (fun _ => False) rfl rfl ?aO ?aR (fun _ _ h => h) (fun _ h => h.elim) ?aF ?aB ?aS ?aL ?_; (case aR => repeat (first | exact (Kd.C_below bS.out HB.out) | (with_reducible refine Kd.C_alloc ?_ _) | (with_reducible refine Kd.C_drewN ?_ _) | (with_reducible refine Kd.C_drew ?_))); (case aB => exact (oB HB)); (case aF => exact (fun _ _ => trivial)); (case aO => exact (oR aI)); (case aS => exact (below_size (oB HB))); (case aL => have := LMc8.out; omega); intro bF cB ho hb hg hat; rw [← aV.out] at ho; have n_ := o2_ (hb) (o1_ (ho)); clear HB aI; obtain ⟨HB, aJ⟩ := n_; clear ho hb hg hat; have bC : ((ji9) : Int) ≤ ((l0.length : Int) : Int) := of_decide_eq_true oM; obtain ⟨i018, hi018, _, hsz18, _⟩ := info_parts info25; have hroom18 : l0.length ≤ c0 := bG.out; have hC18 : Kd.C k25 _ A0 l0.length l0 := bJ.out; have bA : (0 : Int) ≤ ((ji9) : Int) := of_decide_eq_true oM; have hcut18 := cut_from (P := Try.prog) 23 25 .i64 Try.underlying23 hi018 5 hsz18 A0 l0.length c0 (ji9) bA bC; have hr18 := Kd.C_drop (m := ((ji9) : Int).toNat) (c := c0) hC18 (by omega) hroom18; obtain ⟨A18, hA18⟩ : ∃ A1, A1 = (if c0 = ((ji9) : Int).toNat then A0 else (A0 : Option Addr).map (·.add (((ji9) : Int).toNat * 5))) := ⟨_, rfl⟩; obtain ⟨c18, hc18⟩ : ∃ c1, c1 = c0 - ((ji9) : Int).toNat := ⟨_, rfl⟩; have hy18 : aA.length = l0.length - ((ji9) : Int).toNat := (by rw [aN.out, List.length_drop] <;> omega); rw [show (l0).drop ((ji9) : Int).toNat = aA from aN.out.symm] at hr18; replace hr18 : Kd.C k25 _ A18 aA.length aA := (by rw [hA18]; exact hr18); rw [← hy18, ← hA18, ← hc18] at hcut18; have aT := Aside0.mk hr18; have bI := Aside0.mk (show aA.length ≤ c18 from by rw [hy18, hc18]; exact Nat.sub_le_sub_right hroom18 _); clear hr18 hC18 hroom18 hi018 hsz18 hc18; have KY18 := Aside0.mk hy18; have KA18 := Aside0.mk hA18; clear hy18 hA18; replace bC := eq_true bC) | ((with_reducible refine gate_builtin (b := .append) (xs := #[.tmp 18, .tmp 23]) rfl ?_); at_builtin; refine Kd.R_append_rows k25 (w0 := w) w.heap.size rfl (.tmp 18) (.tmp 23) 23 25 (.agg #[(.int .i64 0), (.int .i64 0), (.int .i64 0), (.int .i64 0), (.int .i64 0)]) 40 rfl Try.underlying23 info25 rfl oD (by omega) bF aC aA _ _ _ (fun _ => True) (fun _ => False) rfl rfl ?aO ?aR (fun _ _ h => h) (fun _ h => h.elim) ?aF ?aB ?aS ?aL ?_; (case aR => repeat (first | exact (Kd.C_below aT.out HB.out) | (with_reducible refine Kd.C_alloc ?_ _) | (with_reducible refine Kd.C_drewN ?_ _) | (with_reducible refine Kd.C_drew ?_))); (case aB => exact (oB HB)); (case aF => exact (fun _ _ => trivial)); (case aO => exact (oR aJ)); (case aS => exact (below_size (oB HB))); (case aL => have := LMc12.out; omega); intro bX cC ho hb hg hat; rw [← aW.out] at ho; have n_ := o2_ (hb) (o1_ (ho)); clear HB aJ; obtain ⟨HB, aP⟩ := n_; clear ho hb hg hat))
        go_ret
        exact ⟨_, by first | rfl | (simp [errW_none, errW_some] <;> rfl) | (simp only [← hji9]; first | rfl | (simp [errW_none, errW_some] <;> rfl)) | (simp [*, errW_none, errW_some] <;> rfl), by (with_reducible repeat (first | apply Kd.R_alloc | apply Kd.R_drewN | apply Kd.R_drew)); exact aP.out, oB HB⟩
       ·rw [if_neg aZ] at H
        exact absurd H (by simp)
      ·rw [if_neg aY] at H
       exact absurd H (by simp)
     ·rw [if_neg aX] at H
      exact absurd H (by simp)
    ·rw [if_neg c8] at H
     exact absurd H (by simp)
   ·rw [if_neg c7] at H
    exact absurd H (by simp)
  ·rw [if_neg c6] at H
   exact absurd H (by simp)
 ·rw [if_neg c5] at H
  exact absurd H (by simp)

end Go.Proofs.Ytjkaalcocgioaaa.X
