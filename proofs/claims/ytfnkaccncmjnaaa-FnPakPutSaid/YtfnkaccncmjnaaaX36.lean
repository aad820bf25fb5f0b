/- What functions of the program come to, each with its proof. No condition but what each theorem states. -/
import Derived.Test.YtfnkaccncmjnaaaX0
namespace Go.Proofs.Ytfnkaccncmjnaaa.X
open Go.RowKit Go.Proofs.YtfnkaccncmjnaaaW.PrintWords Go.Proofs.YtfnkaccncmjnaaaW.PrintLast Go.Proofs.YtfnkaccncmjnaaaW.PrintMore Go.Proofs.Ytfnkaccncmjnaaa.Hyb
attribute [local go_sem] max2_int min2_int max_two min_two max_three min_three max_four min_four
set_option linter.unusedVariables false
set_option linter.unusedSimpArgs false

/-! ### spec_l4Bytes: function 49 -/
def spec_l4Bytes.f (l0 : List (List Int)) (l1 : List Int) (a2 : Int) : Option (List Int) := if a2 < 256 then (some (([(a2) % 256] : List Int))) else (if (wrap64 (a2 - 257)) < (l0.length : Int) then (if 0 ≤ (wrap64 (a2 - 257)) then (some (rd_L4 l0 (wrap64 (a2 - 257)))) else (none)) else (if (wrap64 (a2 - 257)) = (l0.length : Int) then (if (l1.length : Int) > 0 then (if a2 < 512 then ((some (([] : List Int) : List Int)).bind fun aK => (if aK.length + l1.length < 140737488355328 then ((some (aK ++ l1 : List Int)).bind fun aH => (if 0 < (l1.length : Int) then ((some (([rd l1 0] : List Int) : List Int)).bind fun aC => (if aH.length + aC.length < 140737488355328 then (some (aH ++ aC)) else (none))) else (none))) else (none))) else (some (([] : List Int)))) else (some (([] : List Int)))) else (some (([] : List Int)))))
def spec_l4Bytes.T7 : Bool × List (List Nat × List Nat) := (true, [([], []), ([], []), ([0, 1], [0, 1]), ([], []), ([3], [3]), ([4], [4]), ([5], [5]), ([2, 6, 2], [2, 6]), ([7, 7, 0, 1, 2, 3, 4, 5, 6, 7], [7])])
def spec_l4Bytes.B7 : List Nat := [0, 0, 3, 0, 8, 24, 56, 127, 255]
theorem spec_l4Bytes.tab7 : rtab .any (opsOf Try.f49 7) = spec_l4Bytes.T7 := by kernel_rfl
theorem spec_l4Bytes.bits7 : waitsOk spec_l4Bytes.T7.2 spec_l4Bytes.B7 = true := by kernel_rfl
set_option maxHeartbeats 8000000 in
set_option maxRecDepth 100000 in
theorem spec_l4Bytes.calls (P0_ : Nat → Prop) (A0 : Option Addr) (c0 : Nat) (l0 : List (List Int)) (A1 : Option Addr) (c1 : Nat) (l1 : List Int) (a2 : Int) (r : List Int) (w : World) (hs0 : Kd.V (Kd.slice 5 (Kd.int .u8)) 24 w w.heap.size (fun k_ => P0_ k_) (.slice A0 l0.length c0) l0) (hr1 : Kd.C (Kd.int .u8) w A1 l1.length l1) (cM : l1.length ≤ c1) (h : spec_l4Bytes.f l0 l1 a2 = some r) :
  Calls Try.prog 49 #[.slice A0 l0.length c0, .slice A1 l1.length c1, .int .i64 a2] w fun e w' => ∃ cS : Value, e = .returned (cS) ∧ Kd.V (Kd.int .u8) 5 w' w.heap.size (fun k_ => (P0_ k_ ∨ w.heap.size ≤ k_)) cS r ∧ Below w.heap.size w w' := by
 have aD := Aside0.mk (show Kd.V (Kd.slice 5 (Kd.int .u8)) 24 w w.heap.size (fun k_ => (P0_ k_ ∨ w.heap.size ≤ k_)) (.slice A0 l0.length c0) l0 from Kd.V_mono hs0 (fun k_ hk => .inl hk))
 have bX := Aside0.mk hr1
 have dC := Aside0.mk cM
 clear hr1 cM
 have HB := Aside0.mk (Below.refl w.heap.size w)
 have H : (if a2 < 256 then (some (([(a2) % 256] : List Int))) else (if (wrap64 (a2 - 257)) < (l0.length : Int) then (if 0 ≤ (wrap64 (a2 - 257)) then (some (rd_L4 l0 (wrap64 (a2 - 257)))) else (none)) else (if (wrap64 (a2 - 257)) = (l0.length : Int) then (if (l1.length : Int) > 0 then (if a2 < 512 then ((some (([] : List Int) : List Int)).bind fun aK => (if aK.length + l1.length < 140737488355328 then ((some (aK ++ l1 : List Int)).bind fun aH => (if 0 < (l1.length : Int) then ((some (([rd l1 0] : List Int) : List Int)).bind fun aC => (if aH.length + aC.length < 140737488355328 then (some (aH ++ aC)) else (none))) else (none))) else (none))) else (some (([] : List Int)))) else (some (([] : List Int)))) else (some (([] : List Int)))))) = some r := h
 clear h
 by_cases c4 : a2 < 256
 ·rw [if_pos c4] at H
  have cF : decide (a2 < 256) = true := decide_eq_true c4
  clear c4
  obtain ⟨y371, hy371⟩ : ∃ y_ : List Int, y_ = (([(a2) % 256] : List Int)) := ⟨_, rfl⟩
  replace H : (some y371) = some r := by first | (rw [hy371]; with_reducible exact H) | (have H2_ := (Option.bind_some _ _).symm.trans H; rw [hy371]; with_reducible exact H2_) | (have H2_ := (Option.bind_some _ _).symm.trans H; with_reducible exact H2_) | with_reducible exact H | (rw [hy371]; exact H) | exact H
  have aZ := Aside0.mk hy371
  clear hy371
  obtain rfl := Option.some.inj H
  go_enter Try.func49, Try.ntmps49
  go_wp2_with (first | ((with_reducible refine gate_dst (N := 12) rfl ?_); (try (refine gate_guard (by rfl) ?_; dsimp only)); refine Kd.R_lit (Kd.int .u8) _ 5 ?hg (N := 12) ?hd (xs := ([(a2) % 256] : List Int)) (inner := [.int .u8 ((a2) % 256)]) (ok := fun _ => True) (okp := fun _ => True) ?hr ?hp (fun _ hk => hk) trivial (Below.refl _ _) (Nat.le_refl _) (by simp) ?_; (case hd => rfl); (case hg => rfl); (case hr => first | (go_simp; done) | (go_simp; rfl)); (case hp => exact (Reps.one (show Kd.M (Kd.int .u8) _ _ _ ((a2) % 256) [.int .u8 ((a2) % 256)] from rfl) (Reps.none _ _))); intro cV w5 ho6 hb hg_ hnew_; clear hg_ hnew_; (first | rw [← aZ.out] at ho6 | (simp only [Int.reduceToNat] at ho6; rw [← aZ.out] at ho6)); have n_ := o2_ (Kd.V_elder' (oV aD) (Kd.R_base ho6) hb) (o2_ (Kd.R_lower (Kd.R_newM (M := fun k_ => (w.heap.size ≤ k_)) ho6 (below_size (oB HB)) (fun k_ h_ => h_)) (below_size (oB HB))) (o1_ (below_step (oB HB) hb))); clear aD HB; obtain ⟨aD, bI, HB⟩ := n_; clear hb ho6))
  go_ret
  exact ⟨_, by first | rfl | (simp [errW_none, errW_some] <;> rfl) | (simp [*, errW_none, errW_some] <;> rfl), Kd.V_mono (Kd.R_V (by (with_reducible repeat (first | apply Kd.R_alloc | apply Kd.R_drewN | apply Kd.R_drew)); exact Kd.R_mono bI.out (fun _ hk => hk.1))) (fun k_ hk => by first | exact ⟨(.inr (hk.1)), hk.2⟩ | exact (.inr (hk))), oB HB⟩
 ·rw [if_neg c4] at H
  have cF : decide (a2 < 256) = false := decide_eq_false c4
  clear c4
  by_cases c7 : (wrap64 (a2 - 257)) < (l0.length : Int)
  ·rw [if_pos c7] at H
   have bT : decide ((wrap64 (a2 - 257)) < (l0.length : Int)) = true := decide_eq_true c7
   clear c7
   obtain ⟨ji8, hji8⟩ : ∃ j_ : Int, (wrap64 (a2 - 257)) = j_ := ⟨_, rfl⟩
   replace H : (if 0 ≤ (ji8) then (some (rd_L4 l0 (ji8))) else (none)) = some r := by first | (rw [hji8] at H; exact H) | (simp only [hji8] at H ⊢; exact H)
   (try rw [hji8] at bT)
   have cN : (IntKind.i64.wrap (a2 - 257)) = ji8 := (i64_w _).trans hji8
   by_cases c9 : 0 ≤ (ji8)
   ·rw [if_pos c9] at H
    have cU : decide (0 ≤ (ji8)) = true := decide_eq_true c9
    clear c9
    obtain rfl := Option.some.inj H
    have aX : 0 ≤ ((ji8) : Int) := of_decide_eq_true oM
    have aY : (ji8) < (l0.length : Int) := of_decide_eq_true oM
    obtain ⟨cJ, cC, cE, cH, aW, hl374_0, hi374_0⟩ := at_L4 (Kd.V_reads' aD.out).2.2 (ji8) aX aY
    cases cH
    obtain ⟨ce374, hce374, hMe374, hcc374⟩ := Kd.V_get aD.out [] (ji8) aX (by first | exact aY | exact of_decide_eq_true oM | (have e_ := (Kd.V_reads' aD.out).1; omega))
    obtain ⟨ua374_0, uc374_0, rfl, ul374_0, ge374_0⟩ := Kd.FK_slice_open hMe374
    have hv374_0 := hcc374 0 _ rfl
    rw [Nat.add_zero, show ((Kd.slice 5 (Kd.int .u8))).sz = 1 from rfl, Nat.mul_one] at hv374_0
    replace hv374_0 := Option.some.inj (hv374_0.symm.trans aW)
    injection hv374_0 with hva_ hvn_ hvc_
    rw [hva_] at ge374_0
    rw [hvc_] at ul374_0
    have aV := Aside0.mk (show Kd.V (Kd.int .u8) 5 _ w.heap.size _ _ (rd_L4 l0 (ji8)) from Kd.V_mk ul374_0 ge374_0)
    clear hva_ hvn_ hvc_ ge374_0 ul374_0
    clear hcc374 hce374
    have bY := Aside0.mk hi374_0
    have bW := Aside0.mk hl374_0
    clear hi374_0 hl374_0
    replace aX := eq_true aX
    replace aY := eq_true aY
    go_enter Try.func49, Try.ntmps49
    go_wp2
    go_ret
    exact ⟨_, by first | rfl | (simp [errW_none, errW_some] <;> rfl) | (simp only [← hji8]; first | rfl | (simp [errW_none, errW_some] <;> rfl)) | (simp [*, errW_none, errW_some] <;> rfl), by (with_reducible repeat (first | apply Kd.V_alloc | apply Kd.V_drewN | apply Kd.V_drew)); exact aV.out, oB HB⟩
   ·rw [if_neg c9] at H
    exact absurd H (by simp)
  ·rw [if_neg c7] at H
   have bT : decide ((wrap64 (a2 - 257)) < (l0.length : Int)) = false := decide_eq_false c7
   clear c7
   by_cases bD : (wrap64 (a2 - 257)) = (l0.length : Int)
   ·rw [if_pos bD] at H
    have bO : ((wrap64 (a2 - 257)) == (l0.length : Int)) = true := beq_iff_eq.mpr bD
    have bP : ((wrap64 (a2 - 257)) != (l0.length : Int)) = false := bne_eq_false_iff_eq.mpr bD
    clear bD
    by_cases bG : (l1.length : Int) > 0
    ·rw [if_pos bG] at H
     have bQ : decide (0 < (l1.length : Int)) = true := decide_eq_true bG
     have bR : decide (0 < l1.length) = true := decide_eq_true (by omega)
     clear bG
     by_cases bH : a2 < 512
     ·rw [if_pos bH] at H
      have bS : decide (a2 < 512) = true := decide_eq_true bH
      clear bH
      obtain ⟨aK, hy375⟩ : ∃ y_ : List Int, y_ = (([] : List Int)) := ⟨_, rfl⟩
      replace H : (if aK.length + l1.length < 140737488355328 then ((some (aK ++ l1 : List Int)).bind fun aH => (if 0 < (l1.length : Int) then ((some (([rd l1 0] : List Int) : List Int)).bind fun aC => (if aH.length + aC.length < 140737488355328 then (some (aH ++ aC)) else (none))) else (none))) else (none)) = some r := by first | (rw [hy375]; with_reducible exact H) | (have H2_ := (Option.bind_some _ _).symm.trans H; rw [hy375]; with_reducible exact H2_) | (have H2_ := (Option.bind_some _ _).symm.trans H; with_reducible exact H2_) | with_reducible exact H | (rw [hy375]; exact H) | exact H
      have aQ := Aside0.mk hy375
      clear hy375
      by_cases bZ : aK.length + l1.length < 140737488355328
      ·rw [if_pos bZ] at H
       have LMc13 := Aside0.mk bZ
       clear bZ
       obtain ⟨aH, hy378⟩ : ∃ y_ : List Int, y_ = (aK ++ l1) := ⟨_, rfl⟩
       replace H : (if 0 < (l1.length : Int) then ((some (([rd l1 0] : List Int) : List Int)).bind fun aC => (if aH.length + aC.length < 140737488355328 then (some (aH ++ aC)) else (none))) else (none)) = some r := by first | (rw [hy378]; with_reducible exact H) | (have H2_ := (Option.bind_some _ _).symm.trans H; rw [hy378]; with_reducible exact H2_) | (have H2_ := (Option.bind_some _ _).symm.trans H; with_reducible exact H2_) | with_reducible exact H | (rw [hy378]; exact H) | exact H
       have aT := Aside0.mk hy378
       clear hy378
       by_cases cA : 0 < (l1.length : Int)
       ·rw [if_pos cA] at H
        have cK : decide (0 < (l1.length : Int)) = true := decide_eq_true cA
        have cL : decide (0 < l1.length) = true := decide_eq_true (by omega)
        clear cA
        obtain ⟨aC, hy382⟩ : ∃ y_ : List Int, y_ = (([rd l1 0] : List Int)) := ⟨_, rfl⟩
        replace H : (if aH.length + aC.length < 140737488355328 then (some (aH ++ aC)) else (none)) = some r := by first | (rw [hy382]; with_reducible exact H) | (have H2_ := (Option.bind_some _ _).symm.trans H; rw [hy382]; with_reducible exact H2_) | (have H2_ := (Option.bind_some _ _).symm.trans H; with_reducible exact H2_) | with_reducible exact H | (rw [hy382]; exact H) | exact H
        have aN := Aside0.mk hy382
        clear hy382
        by_cases cB : aH.length + aC.length < 140737488355328
        ·rw [if_pos cB] at H
         have LMc15 := Aside0.mk cB
         clear cB
         obtain ⟨y385, hy385⟩ : ∃ y_ : List Int, y_ = (aH ++ aC) := ⟨_, rfl⟩
         replace H : (some y385) = some r := by first | (rw [hy385]; with_reducible exact H) | (have H2_ := (Option.bind_some _ _).symm.trans H; rw [hy385]; with_reducible exact H2_) | (have H2_ := (Option.bind_some _ _).symm.trans H; with_reducible exact H2_) | with_reducible exact H | (rw [hy385]; exact H) | exact H
         have bN := Aside0.mk hy385
         clear hy385
         obtain rfl := Option.some.inj H
         go_enter Try.func49, Try.ntmps49
         try go_wp2
         have n_ := o2_ (Kd.V_drew aD.out) (o1_ (below_drew1 HB.out))
         clear aD HB
         obtain ⟨aD, HB⟩ := n_
         have bE : 0 ≤ (0 : Int) := (by omega)
         have bF : 0 < (l1.length : Int) := of_decide_eq_true oM
         obtain ⟨aU, cI, aE⟩ := Kd.at_int bX.out 0 bE bF
         have hw381_0 := aE
         (try rw [show ((0 : Int)).toNat = 0 from rfl] at hw381_0)
         (try rw [show 0 * 1 = 0 from rfl] at hw381_0)
         (try rw [Addr.add_zero'] at hw381_0)
         cases cI
         have qi381 : (0 < l1.length) = True := eq_true (by omega)
         (try rw [show ((0 : Int)).toNat = 0 from rfl] at aE)
         (try rw [Addr.add_zero'] at aE)
         replace aE := (HB.out.cell (World.block_lt_of_cell? w _ aE)).trans aE
         replace bE := eq_true bE
         replace bF := eq_true bF
         refine start_ (n := 9) (S := fun w' => w'.cell? aU = some (.int .u8 (rd l1 0))) (ds := []) #[false, false, false, false, false, false, false, false, false] oK rfl rfl (((HB.out.cell (World.block_lt_of_cell? w _ hw381_0)).trans hw381_0)) (fun hHeld => ?_); refine with_tabW spec_l4Bytes.tab7 spec_l4Bytes.bits7 (fun HT_ HW_ => ?_)
         generalize w.drew = dD at aD HB aE hHeld ⊢
         refine pure_ (i := 1) (N := some 37) (v := ?_) (a' := ?_) #[false, true, false, false, false, false, false, false, false] rfl rfl (any_of HT_.out oK) (fun _ _ _ h => h) (Or.inl ⟨by rfl, ?_⟩) ?_ ?_
         rotate_left
         ·intro w'
          go_simp
          with_reducible rfl
         rotate_left
         ·exact oT
         refine pure_ (i := 3) (N := some 39) (v := ?_) (a' := ?_) #[false, true, false, true, false, false, false, false, false] rfl rfl (any_of HT_.out oK) (fun _ _ _ h => h) (Or.inl ⟨by rfl, ?_⟩) ?_ ?_
         rotate_left
         ·intro w'
          go_simp
          with_reducible rfl
         rotate_left
         ·exact oT
         refine pure_ (i := 4) (N := some 40) (v := ?_) (a' := ?_) #[false, true, false, true, true, false, false, false, false] rfl rfl (any_of HT_.out oK) (fun _ _ _ h => h) (Or.inl ⟨by rfl, ?_⟩) ?_ ?_
         rotate_left
         ·intro w'
          go_simp
          with_reducible rfl
         rotate_left
         ·exact oT
         refine take_ (i := 5) (N := some 41) (v := ?_) (a' := ?_) #[false, true, false, true, true, true, false, false, false] rfl rfl (take_ofW HT_.out HW_.out oK) (fun _ _ _ h => h) (Or.inl ⟨by rfl, ?_⟩) hHeld ?_ ?_
         rotate_left
         ·intro w' s0
          go_simp
          with_reducible rfl
         rotate_left
         ·exact oT
         refine join_ (σ := Value × Value × Value) 2 #[true, true, true, true, true, true, true, false, false] (fun s_ => [(36, s_.1), (38, s_.2.1), (42, s_.2.2)]) (fun s_ w' => (w'.cell? aU = some (.int .u8 (rd l1 0))) ∧ (Kd.V (Kd.slice 5 (Kd.int .u8)) 24 w' w.heap.size (fun k_ => (P0_ k_ ∨ w.heap.size ≤ k_) ∧ some k_ ≠ (s_.2.1 : Value).ownBlock ∧ some k_ ≠ (s_.2.2 : Value).ownBlock) (.slice A0 l0.length c0) l0) ∧ (Kd.R (Kd.int .u8) 5 w' w.heap.size (fun k_ => (w.heap.size ≤ k_) ∧ some k_ ≠ (s_.2.2 : Value).ownBlock) s_.2.1 aH) ∧ (Kd.R (Kd.int .u8) 5 w' w.heap.size (fun k_ => (w.heap.size ≤ k_) ∧ some k_ ≠ (s_.2.1 : Value).ownBlock) s_.2.2 aC) ∧ (Below w.heap.size w w')) ?_ ?_
         rotate_left
         ·intro hCont
          refine two_ (i := 0) (j := 6) (Ni := some 36) (Nj := some 42) #[true, true, false, true, true, true, false, false, false] #[false, true, false, true, true, true, true, false, false] rfl rfl rfl rfl (two_of HT_.out oK) oD oD (fun K hK => ?_) (fun K hK => ?_)
          ·skip
           refine Kd.R_lit_step (Kd.int .u8) _ 5 ?hg (N := 36) ?hd (xs := ([] : List Int)) (inner := []) (ok := fun _ => True) (okp := fun _ => True) ?hr ?hp (fun _ hk => hk) trivial (Below.refl _ _) (Nat.le_refl _) (by simp) ?_; (case hd => rfl); (case hg => rfl); (case hr => first | (go_simp; done) | (go_simp; rfl)); (case hp => exact (Reps.none _ _))
           intro aP dA ho18 hb hg_ hnew_
           clear hg_ hnew_
           (first | rw [← aQ.out] at ho18 | (simp only [Int.reduceToNat] at ho18; rw [← aQ.out] at ho18))
           have n_ := o2_ (Kd.V_elder' (oV aD) (Kd.R_base ho18) hb) (o2_ (Kd.R_lower (Kd.R_newM (M := fun k_ => (w.heap.size ≤ k_)) ho18 (below_size (oB HB)) (fun k_ h_ => h_)) (below_size (oB HB))) (o1_ (below_step (oB HB) hb)))
           clear aD HB
           obtain ⟨aD, aI, HB⟩ := n_
           clear hb ho18
           refine hK.out _ _ (((HB.out.cell (World.block_lt_of_cell? w _ hw381_0)).trans hw381_0)) (fun hHeld => ?_)
           clear hK K
           refine norm_ (a' := ?_) ?_ ?_
           rotate_left
           ·show Act.put _ (some 36) _ = _
            exact oT
           refine two_ (i := 2) (j := 6) (Ni := some 38) (Nj := some 42) #[true, true, true, true, true, true, false, false, false] #[true, true, false, true, true, true, true, false, false] rfl rfl rfl rfl (two_of HT_.out oK) oD oD (fun K hK => ?_) (fun K hK => ?_)
           ·skip
            refine Kd.R_append_rows_step (Kd.int .u8) (w0 := w) w.heap.size (by rfl) (.tmp 36) (.tmp 37) 24 5 (.int .u8 0) 1 rfl Try.underlying24 info5 rfl oD (by omega) aP aK l1 _ _ _ (fun k_ => (w.heap.size ≤ k_)) (fun _ => False) rfl rfl ?aO ?aR (fun _ _ h => h) (fun _ h => h.elim) ?aF ?aB ?aS ?aL ?_
            (case aR => repeat (first | exact (Kd.C_below bX.out HB.out) | (with_reducible refine Kd.C_alloc ?_ _) | (with_reducible refine Kd.C_drewN ?_ _) | (with_reducible refine Kd.C_drew ?_)))
            (case aB => exact (oB HB))
            (case aF => exact (fun k_ hk => (Nat.le_trans (below_size (oB HB)) hk)))
            (case aO => exact (by (with_reducible repeat (first | apply Kd.R_alloc | apply Kd.R_drewN | apply Kd.R_drew)); exact Kd.R_mono aI.out (fun _ hk => hk.1)))
            (case aS => exact (below_size (oB HB)))
            (case aL => have := LMc13.out; omega)
            intro aM cT ho hb hg hat
            rw [← aT.out] at ho
            have n_ := o2_ (Kd.V_afterv (ok := (fun k_ => (P0_ k_ ∨ w.heap.size ≤ k_))) (oV aD) hg hat) (o2_ (hb) (o1_ (ho)))
            clear aD HB aI
            obtain ⟨aD, HB, aG⟩ := n_
            clear ho hb hg hat
            refine hK.out _ _ (((HB.out.cell (World.block_lt_of_cell? w _ hw381_0)).trans hw381_0)) (fun hHeld => ?_)
            clear hK K
            refine norm_ (a' := ?_) ?_ ?_
            rotate_left
            ·show Act.put _ (some 38) _ = _
             exact oT
            refine one_ (i := 6) (N := some 42) #[true, true, true, true, true, true, true, false, false] rfl rfl (one_of HT_.out oK) oD (fun K hK => ?_)
            refine Kd.R_lit_step (Kd.int .u8) _ 5 ?hg (N := 42) ?hd (xs := ([rd l1 0] : List Int)) (inner := [.int .u8 (rd l1 0)]) (ok := fun _ => True) (okp := fun _ => True) ?hr ?hp (fun _ hk => hk) trivial (Below.refl _ _) (Nat.le_refl _) (by simp) ?_; (case hd => rfl); (case hg => rfl); (case hr => first | (go_simp; done) | (go_simp; rfl)); (case hp => exact (Reps.one (show Kd.M (Kd.int .u8) _ _ _ (rd l1 0) [.int .u8 (rd l1 0)] from rfl) (Reps.none _ _)))
            intro aJ dE ho21 hb hg_ hnew_
            clear hg_ hnew_
            (first | rw [← aN.out] at ho21 | (simp only [Int.reduceToNat] at ho21; rw [← aN.out] at ho21))
            have n_ := o2_ (Kd.V_elder' (oV aD) (Kd.R_base ho21) hb) (o2_ (Kd.R_elder' (oR aG) (Kd.R_base ho21) hb) (o2_ (Kd.R_lower (Kd.R_new' (Kd.R_newM (M := fun k_ => (w.heap.size ≤ k_)) ho21 (below_size (oB HB)) (fun k_ h_ => h_)) (Kd.R_lt (oR aG))) (below_size (oB HB))) (o1_ (below_step (oB HB) hb))))
            clear aD aG HB
            obtain ⟨aD, aG, aA, HB⟩ := n_
            clear hb ho21
            refine hK.out _ _ (((HB.out.cell (World.block_lt_of_cell? w _ hw381_0)).trans hw381_0)) (fun hHeld => ?_)
            clear hK K
            refine norm_ (a' := ?_) ?_ ?_
            rotate_left
            ·show Act.put _ (some 42) _ = _
             exact oT
            exact norm_ (by simp only [putAll, Act.put, List.setIfInBounds_toArray, List.set_cons_zero, List.set_cons_succ]) (hCont (aP, aM, aJ) _ ⟨hHeld, (by (with_reducible repeat (first | apply Kd.V_alloc | apply Kd.V_drewN | apply Kd.V_drew)); exact Kd.V_mono aD.out (fun _ hk => ⟨hk.1.1, ⟨hk.1.2, hk.2⟩⟩)), (oR aG), (by (with_reducible repeat (first | apply Kd.R_alloc | apply Kd.R_drewN | apply Kd.R_drew)); exact Kd.R_mono aA.out (fun _ hk => ⟨hk.1.1, hk.2⟩)), (oB HB)⟩)
           ·skip
            refine Kd.R_lit_step (Kd.int .u8) _ 5 ?hg (N := 42) ?hd (xs := ([rd l1 0] : List Int)) (inner := [.int .u8 (rd l1 0)]) (ok := fun _ => True) (okp := fun _ => True) ?hr ?hp (fun _ hk => hk) trivial (Below.refl _ _) (Nat.le_refl _) (by simp) ?_; (case hd => rfl); (case hg => rfl); (case hr => first | (go_simp; done) | (go_simp; rfl)); (case hp => exact (Reps.one (show Kd.M (Kd.int .u8) _ _ _ (rd l1 0) [.int .u8 (rd l1 0)] from rfl) (Reps.none _ _)))
            intro aJ cT ho20 hb hg_ hnew_
            clear hg_ hnew_
            (first | rw [← aN.out] at ho20 | (simp only [Int.reduceToNat] at ho20; rw [← aN.out] at ho20))
            have n_ := o2_ (Kd.V_elder' (oV aD) (Kd.R_base ho20) hb) (o2_ (Kd.R_elder' (oR aI) (Kd.R_base ho20) hb) (o2_ (Kd.R_lower (Kd.R_new' (Kd.R_newM (M := fun k_ => (w.heap.size ≤ k_)) ho20 (below_size (oB HB)) (fun k_ h_ => h_)) (Kd.R_lt (oR aI))) (below_size (oB HB))) (o1_ (below_step (oB HB) hb))))
            clear aD aI HB
            obtain ⟨aD, aI, aA, HB⟩ := n_
            clear hb ho20
            refine hK.out _ _ (((HB.out.cell (World.block_lt_of_cell? w _ hw381_0)).trans hw381_0)) (fun hHeld => ?_)
            clear hK K
            refine norm_ (a' := ?_) ?_ ?_
            rotate_left
            ·show Act.put _ (some 42) _ = _
             exact oT
            refine one_ (i := 2) (N := some 38) #[true, true, true, true, true, true, true, false, false] rfl rfl (one_of HT_.out oK) oD (fun K hK => ?_)
            refine Kd.R_append_rows_step (Kd.int .u8) (w0 := w) w.heap.size (by rfl) (.tmp 36) (.tmp 37) 24 5 (.int .u8 0) 1 rfl Try.underlying24 info5 rfl oD (by omega) aP aK l1 _ _ _ (fun k_ => (w.heap.size ≤ k_) ∧ some k_ ≠ (aJ : Value).ownBlock) (fun _ => False) rfl rfl ?aO ?aR (fun _ _ h => h) (fun _ h => h.elim) ?aF ?aB ?aS ?aL ?_
            (case aR => repeat (first | exact (Kd.C_below bX.out HB.out) | (with_reducible refine Kd.C_alloc ?_ _) | (with_reducible refine Kd.C_drewN ?_ _) | (with_reducible refine Kd.C_drew ?_)))
            (case aB => exact (oB HB))
            (case aF => exact (fun k_ hk => ⟨(Nat.le_trans (below_size (oB HB)) hk), Kd.fresh' (Kd.R_lt (oR aA)) k_ hk⟩))
            (case aO => exact (by (with_reducible repeat (first | apply Kd.R_alloc | apply Kd.R_drewN | apply Kd.R_drew)); exact Kd.R_mono aI.out (fun _ hk => ⟨hk.1.1, hk.2⟩)))
            (case aS => exact (below_size (oB HB)))
            (case aL => have := LMc13.out; omega)
            intro aM dB ho hb hg hat
            rw [← aT.out] at ho
            have n_ := o2_ (Kd.V_afterv (ok := (fun k_ => (P0_ k_ ∨ w.heap.size ≤ k_) ∧ some k_ ≠ (aJ : Value).ownBlock)) (by (with_reducible repeat (first | apply Kd.V_alloc | apply Kd.V_drewN | apply Kd.V_drew)); exact Kd.V_mono aD.out (fun _ hk => ⟨⟨hk.1.1, hk.2⟩, hk.1.2⟩)) hg hat) (o2_ (Kd.R_after (ok := (fun k_ => (w.heap.size ≤ k_))) (by (with_reducible repeat (first | apply Kd.R_alloc | apply Kd.R_drewN | apply Kd.R_drew)); exact Kd.R_mono aA.out (fun _ hk => ⟨hk.1.1, hk.2⟩)) hg hat) (o2_ (hb) (o1_ (ho))))
            clear aD aA HB aI
            obtain ⟨aD, aA, HB, aG⟩ := n_
            clear ho hb hg hat
            refine hK.out _ _ (((HB.out.cell (World.block_lt_of_cell? w _ hw381_0)).trans hw381_0)) (fun hHeld => ?_)
            clear hK K
            refine norm_ (a' := ?_) ?_ ?_
            rotate_left
            ·show Act.put _ (some 38) _ = _
             exact oT
            exact norm_ (by simp only [putAll, Act.put, List.setIfInBounds_toArray, List.set_cons_zero, List.set_cons_succ]) (hCont (aP, aM, aJ) _ ⟨hHeld, (by (with_reducible repeat (first | apply Kd.V_alloc | apply Kd.V_drewN | apply Kd.V_drew)); exact Kd.V_mono aD.out (fun _ hk => ⟨hk.1.1, ⟨hk.2, hk.1.2⟩⟩)), (oR aG), (oR aA), (oB HB)⟩)
          ·skip
           refine Kd.R_lit_step (Kd.int .u8) _ 5 ?hg (N := 42) ?hd (xs := ([rd l1 0] : List Int)) (inner := [.int .u8 (rd l1 0)]) (ok := fun _ => True) (okp := fun _ => True) ?hr ?hp (fun _ hk => hk) trivial (Below.refl _ _) (Nat.le_refl _) (by simp) ?_; (case hd => rfl); (case hg => rfl); (case hr => first | (go_simp; done) | (go_simp; rfl)); (case hp => exact (Reps.one (show Kd.M (Kd.int .u8) _ _ _ (rd l1 0) [.int .u8 (rd l1 0)] from rfl) (Reps.none _ _)))
           intro aJ dA ho18 hb hg_ hnew_
           clear hg_ hnew_
           (first | rw [← aN.out] at ho18 | (simp only [Int.reduceToNat] at ho18; rw [← aN.out] at ho18))
           have n_ := o2_ (Kd.V_elder' (oV aD) (Kd.R_base ho18) hb) (o2_ (Kd.R_lower (Kd.R_newM (M := fun k_ => (w.heap.size ≤ k_)) ho18 (below_size (oB HB)) (fun k_ h_ => h_)) (below_size (oB HB))) (o1_ (below_step (oB HB) hb)))
           clear aD HB
           obtain ⟨aD, aA, HB⟩ := n_
           clear hb ho18
           refine hK.out _ _ (((HB.out.cell (World.block_lt_of_cell? w _ hw381_0)).trans hw381_0)) (fun hHeld => ?_)
           clear hK K
           refine norm_ (a' := ?_) ?_ ?_
           rotate_left
           ·show Act.put _ (some 42) _ = _
            exact oT
           refine one_ (i := 0) (N := some 36) #[true, true, false, true, true, true, true, false, false] rfl rfl (one_of HT_.out oK) oD (fun K hK => ?_)
           refine Kd.R_lit_step (Kd.int .u8) _ 5 ?hg (N := 36) ?hd (xs := ([] : List Int)) (inner := []) (ok := fun _ => True) (okp := fun _ => True) ?hr ?hp (fun _ hk => hk) trivial (Below.refl _ _) (Nat.le_refl _) (by simp) ?_; (case hd => rfl); (case hg => rfl); (case hr => first | (go_simp; done) | (go_simp; rfl)); (case hp => exact (Reps.none _ _))
           intro aP cT ho20 hb hg_ hnew_
           clear hg_ hnew_
           (first | rw [← aQ.out] at ho20 | (simp only [Int.reduceToNat] at ho20; rw [← aQ.out] at ho20))
           have n_ := o2_ (Kd.V_elder' (oV aD) (Kd.R_base ho20) hb) (o2_ (Kd.R_elder' (oR aA) (Kd.R_base ho20) hb) (o2_ (Kd.R_lower (Kd.R_new' (Kd.R_newM (M := fun k_ => (w.heap.size ≤ k_)) ho20 (below_size (oB HB)) (fun k_ h_ => h_)) (Kd.R_lt (oR aA))) (below_size (oB HB))) (o1_ (below_step (oB HB) hb))))
           clear aD aA HB
           obtain ⟨aD, aA, aI, HB⟩ := n_
           clear hb ho20
           refine hK.out _ _ (((HB.out.cell (World.block_lt_of_cell? w _ hw381_0)).trans hw381_0)) (fun hHeld => ?_)
           clear hK K
           refine norm_ (a' := ?_) ?_ ?_
           rotate_left
           ·show Act.put _ (some 36) _ = _
            exact oT
           refine one_ (i := 2) (N := some 38) #[true, true, true, true, true, true, true, false, false] rfl rfl (one_of HT_.out oK) oD (fun K hK => ?_)
           refine Kd.R_append_rows_step (Kd.int .u8) (w0 := w) w.heap.size (by rfl) (.tmp 36) (.tmp 37) 24 5 (.int .u8 0) 1 rfl Try.underlying24 info5 rfl oD (by omega) aP aK l1 _ _ _ (fun k_ => (w.heap.size ≤ k_) ∧ some k_ ≠ (aJ : Value).ownBlock) (fun _ => False) rfl rfl ?aO ?aR (fun _ _ h => h) (fun _ h => h.elim) ?aF ?aB ?aS ?aL ?_
           (case aR => repeat (first | exact (Kd.C_below bX.out HB.out) | (with_reducible refine Kd.C_alloc ?_ _) | (with_reducible refine Kd.C_drewN ?_ _) | (with_reducible refine Kd.C_drew ?_)))
           (case aB => exact (oB HB))
           (case aF => exact (fun k_ hk => ⟨(Nat.le_trans (below_size (oB HB)) hk), Kd.fresh' (Kd.R_lt (oR aA)) k_ hk⟩))
           (case aO => exact (by (with_reducible repeat (first | apply Kd.R_alloc | apply Kd.R_drewN | apply Kd.R_drew)); exact Kd.R_mono aI.out (fun _ hk => ⟨hk.1.1, hk.2⟩)))
           (case aS => exact (below_size (oB HB)))
           (case aL => have := LMc13.out; omega)
           intro aM dB ho hb hg hat
           rw [← aT.out] at ho
           have n_ := o2_ (Kd.V_afterv (ok := (fun k_ => (P0_ k_ ∨ w.heap.size ≤ k_) ∧ some k_ ≠ (aJ : Value).ownBlock)) (oV aD) hg hat) (o2_ (Kd.R_after (ok := (fun k_ => (w.heap.size ≤ k_))) (by (with_reducible repeat (first | apply Kd.R_alloc | apply Kd.R_drewN | apply Kd.R_drew)); exact Kd.R_mono aA.out (fun _ hk => ⟨hk.1.1, hk.2⟩)) hg hat) (o2_ (hb) (o1_ (ho))))
           clear aD aA HB aI
           obtain ⟨aD, aA, HB, aG⟩ := n_
           clear ho hb hg hat
           refine hK.out _ _ (((HB.out.cell (World.block_lt_of_cell? w _ hw381_0)).trans hw381_0)) (fun hHeld => ?_)
           clear hK K
           refine norm_ (a' := ?_) ?_ ?_
           rotate_left
           ·show Act.put _ (some 38) _ = _
            exact oT
           exact norm_ (by simp only [putAll, Act.put, List.setIfInBounds_toArray, List.set_cons_zero, List.set_cons_succ]) (hCont (aP, aM, aJ) _ ⟨hHeld, (by (with_reducible repeat (first | apply Kd.V_alloc | apply Kd.V_drewN | apply Kd.V_drew)); exact Kd.V_mono aD.out (fun _ hk => ⟨hk.1.1, ⟨hk.2, hk.1.2⟩⟩)), (oR aG), (oR aA), (oB HB)⟩)
         rintro ⟨aP, aM, aJ⟩ bV ⟨hS_, h0_, h1_, h2_, h3_⟩
         have cO : Aside0 (Kd.V (Kd.slice 5 (Kd.int .u8)) 24 bV w.heap.size (fun k_ => (P0_ k_ ∨ w.heap.size ≤ k_) ∧ some k_ ≠ (aM : Value).ownBlock ∧ some k_ ≠ (aJ : Value).ownBlock) (.slice A0 l0.length c0) l0) := ⟨h0_⟩
         have cP : Aside0 (Kd.R (Kd.int .u8) 5 bV w.heap.size (fun k_ => (w.heap.size ≤ k_) ∧ some k_ ≠ (aJ : Value).ownBlock) aM aH) := ⟨h1_⟩
         have cQ : Aside0 (Kd.R (Kd.int .u8) 5 bV w.heap.size (fun k_ => (w.heap.size ≤ k_) ∧ some k_ ≠ (aM : Value).ownBlock) aJ aC) := ⟨h2_⟩
         have cR : Aside0 (Below w.heap.size w bV) := ⟨h3_⟩
         clear aD
         clear HB
         clear h0_ h1_ h2_ h3_
         have aD := cO
         have aG := cP
         have aA := cQ
         have HB := cR
         clear cO cP cQ cR
         have hHeld : bV.cell? aU = some (.int .u8 (rd l1 0)) := hS_
         obtain ⟨cD, cG, bU⟩ := Kd.R_slice aA.out
         (first | subst bU | (injection bU with f1_ f2_ f3_; have f4_ := f1_.symm; have f5_ := f3_.symm; clear f1_ f2_ f3_; subst f4_; subst f5_))
         refine norm_ (a' := ?_) ?_ ?_
         rotate_left
         ·simp only [putAll, Act.put, List.setIfInBounds_toArray, List.set_cons_zero, List.set_cons_succ]
          rfl
         refine one_ (i := 7) (N := some 43) #[true, true, true, true, true, true, true, true, false] rfl rfl (one_of HT_.out oK) oD (fun K hK => ?_)
         refine Kd.R_append_rows_step (Kd.int .u8) (w0 := w) w.heap.size (by rfl) (.tmp 38) (.tmp 42) 24 5 (.int .u8 0) 1 rfl Try.underlying24 info5 rfl oD (by omega) aM aH aC _ _ _ (fun k_ => (w.heap.size ≤ k_) ∧ some k_ ≠ (.slice cD aC.length cG : Value).ownBlock) (fun _ => False) rfl rfl ?aO ?aR (fun _ _ h => h) (fun _ h => h.elim) ?aF ?aB ?aS ?aL ?_
         (case aR => repeat (first | exact (Kd.R_reads' aA.out).2.2 | (with_reducible refine Kd.C_alloc ?_ _) | (with_reducible refine Kd.C_drewN ?_ _) | (with_reducible refine Kd.C_drew ?_)))
         (case aB => exact (oB HB))
         (case aF => exact (fun k_ hk => ⟨(Nat.le_trans (below_size (oB HB)) hk), Kd.fresh' (Kd.R_lt (oR aA)) k_ hk⟩))
         (case aO => exact (oR aG))
         (case aS => exact (below_size (oB HB)))
         (case aL => have := LMc15.out; omega)
         intro cW dF ho hb hg hat
         rw [← bN.out] at ho
         have n_ := o2_ (hb) (o1_ (ho))
         clear HB aG
         obtain ⟨HB, bJ⟩ := n_
         clear ho hb hg hat
         refine hK.out _ _ (((HB.out.cell (World.block_lt_of_cell? w _ hw381_0)).trans hw381_0)) (fun hHeld => ?_)
         clear hK K
         refine norm_ (a' := ?_) ?_ ?_
         rotate_left
         ·show Act.put _ (some 43) _ = _
          exact oT
         refine pure_ (i := 8) (N := some 6) (v := ?_) (a' := ?_) #[true, true, true, true, true, true, true, true, true] rfl rfl (any_of HT_.out oK) (fun _ _ _ h => h) (Or.inl ⟨by rfl, ?_⟩) ?_ ?_
         rotate_left
         ·intro w'
          go_simp
          with_reducible rfl
         rotate_left
         ·exact oT
         refine done_ (done_of HT_.out oK) ?_
         try go_wp2
         go_ret
         exact ⟨_, by first | rfl | (simp [errW_none, errW_some] <;> rfl) | (simp [*, errW_none, errW_some] <;> rfl), Kd.V_mono (Kd.R_V (by (with_reducible repeat (first | apply Kd.R_alloc | apply Kd.R_drewN | apply Kd.R_drew)); exact Kd.R_mono bJ.out (fun _ hk => hk.1))) (fun k_ hk => by first | exact ⟨(.inr (hk.1)), hk.2⟩ | exact (.inr (hk))), oB HB⟩
        ·rw [if_neg cB] at H
         exact absurd H (by simp)
       ·rw [if_neg cA] at H
        exact absurd H (by simp)
      ·rw [if_neg bZ] at H
       exact absurd H (by simp)
     ·rw [if_neg bH] at H
      have bS : decide (a2 < 512) = false := decide_eq_false bH
      clear bH
      obtain ⟨y388, hy388⟩ : ∃ y_ : List Int, y_ = (([] : List Int)) := ⟨_, rfl⟩
      replace H : (some y388) = some r := by first | (rw [hy388]; with_reducible exact H) | (have H2_ := (Option.bind_some _ _).symm.trans H; rw [hy388]; with_reducible exact H2_) | (have H2_ := (Option.bind_some _ _).symm.trans H; with_reducible exact H2_) | with_reducible exact H | (rw [hy388]; exact H) | exact H
      have bA := Aside0.mk hy388
      clear hy388
      obtain rfl := Option.some.inj H
      go_enter Try.func49, Try.ntmps49
      go_wp2_with (first | ((with_reducible refine gate_dst (N := 44) rfl ?_); (try (refine gate_guard (by rfl) ?_; dsimp only)); refine Kd.R_lit (Kd.int .u8) _ 5 ?hg (N := 44) ?hd (xs := ([] : List Int)) (inner := []) (ok := fun _ => True) (okp := fun _ => True) ?hr ?hp (fun _ hk => hk) trivial (Below.refl _ _) (Nat.le_refl _) (by simp) ?_; (case hd => rfl); (case hg => rfl); (case hr => first | (go_simp; done) | (go_simp; rfl)); (case hp => exact (Reps.none _ _)); intro cX dG ho26 hb hg_ hnew_; clear hg_ hnew_; (first | rw [← bA.out] at ho26 | (simp only [Int.reduceToNat] at ho26; rw [← bA.out] at ho26)); have n_ := o2_ (Kd.R_lower (Kd.R_newM (M := fun k_ => (w.heap.size ≤ k_)) ho26 (below_size (oB HB)) (fun k_ h_ => h_)) (below_size (oB HB))) (o1_ (below_step (oB HB) hb)); clear HB; obtain ⟨bK, HB⟩ := n_; clear hb ho26))
      go_ret
      exact ⟨_, by first | rfl | (simp [errW_none, errW_some] <;> rfl) | (simp [*, errW_none, errW_some] <;> rfl), Kd.V_mono (Kd.R_V (by (with_reducible repeat (first | apply Kd.R_alloc | apply Kd.R_drewN | apply Kd.R_drew)); exact Kd.R_mono bK.out (fun _ hk => hk.1))) (fun k_ hk => by first | exact ⟨(.inr (hk.1)), hk.2⟩ | exact (.inr (hk))), oB HB⟩
    ·rw [if_neg bG] at H
     have bQ : decide (0 < (l1.length : Int)) = false := decide_eq_false bG
     have bR : decide (0 < l1.length) = false := decide_eq_false (by omega)
     clear bG
     obtain ⟨y391, hy391⟩ : ∃ y_ : List Int, y_ = (([] : List Int)) := ⟨_, rfl⟩
     replace H : (some y391) = some r := by first | (rw [hy391]; with_reducible exact H) | (have H2_ := (Option.bind_some _ _).symm.trans H; rw [hy391]; with_reducible exact H2_) | (have H2_ := (Option.bind_some _ _).symm.trans H; with_reducible exact H2_) | with_reducible exact H | (rw [hy391]; exact H) | exact H
     have bB := Aside0.mk hy391
     clear hy391
     obtain rfl := Option.some.inj H
     go_enter Try.func49, Try.ntmps49
     go_wp2_with (first | ((with_reducible refine gate_dst (N := 44) rfl ?_); (try (refine gate_guard (by rfl) ?_; dsimp only)); refine Kd.R_lit (Kd.int .u8) _ 5 ?hg (N := 44) ?hd (xs := ([] : List Int)) (inner := []) (ok := fun _ => True) (okp := fun _ => True) ?hr ?hp (fun _ hk => hk) trivial (Below.refl _ _) (Nat.le_refl _) (by simp) ?_; (case hd => rfl); (case hg => rfl); (case hr => first | (go_simp; done) | (go_simp; rfl)); (case hp => exact (Reps.none _ _)); intro cY dH ho28 hb hg_ hnew_; clear hg_ hnew_; (first | rw [← bB.out] at ho28 | (simp only [Int.reduceToNat] at ho28; rw [← bB.out] at ho28)); have n_ := o2_ (Kd.R_lower (Kd.R_newM (M := fun k_ => (w.heap.size ≤ k_)) ho28 (below_size (oB HB)) (fun k_ h_ => h_)) (below_size (oB HB))) (o1_ (below_step (oB HB) hb)); clear HB; obtain ⟨bL, HB⟩ := n_; clear hb ho28))
     go_ret
     exact ⟨_, by first | rfl | (simp [errW_none, errW_some] <;> rfl) | (simp [*, errW_none, errW_some] <;> rfl), Kd.V_mono (Kd.R_V (by (with_reducible repeat (first | apply Kd.R_alloc | apply Kd.R_drewN | apply Kd.R_drew)); exact Kd.R_mono bL.out (fun _ hk => hk.1))) (fun k_ hk => by first | exact ⟨(.inr (hk.1)), hk.2⟩ | exact (.inr (hk))), oB HB⟩
   ·rw [if_neg bD] at H
    have bO : ((wrap64 (a2 - 257)) == (l0.length : Int)) = false := beq_eq_false_iff_ne.mpr bD
    have bP : ((wrap64 (a2 - 257)) != (l0.length : Int)) = true := bne_iff_ne.mpr bD
    obtain ⟨y394, hy394⟩ : ∃ y_ : List Int, y_ = (([] : List Int)) := ⟨_, rfl⟩
    replace H : (some y394) = some r := by first | (rw [hy394]; with_reducible exact H) | (have H2_ := (Option.bind_some _ _).symm.trans H; rw [hy394]; with_reducible exact H2_) | (have H2_ := (Option.bind_some _ _).symm.trans H; with_reducible exact H2_) | with_reducible exact H | (rw [hy394]; exact H) | exact H
    have bC := Aside0.mk hy394
    clear hy394
    obtain rfl := Option.some.inj H
    go_enter Try.func49, Try.ntmps49
    go_wp2_with (first | ((with_reducible refine gate_dst (N := 44) rfl ?_); (try (refine gate_guard (by rfl) ?_; dsimp only)); refine Kd.R_lit (Kd.int .u8) _ 5 ?hg (N := 44) ?hd (xs := ([] : List Int)) (inner := []) (ok := fun _ => True) (okp := fun _ => True) ?hr ?hp (fun _ hk => hk) trivial (Below.refl _ _) (Nat.le_refl _) (by simp) ?_; (case hd => rfl); (case hg => rfl); (case hr => first | (go_simp; done) | (go_simp; rfl)); (case hp => exact (Reps.none _ _)); intro cZ dI ho30 hb hg_ hnew_; clear hg_ hnew_; (first | rw [← bC.out] at ho30 | (simp only [Int.reduceToNat] at ho30; rw [← bC.out] at ho30)); have n_ := o2_ (Kd.R_lower (Kd.R_newM (M := fun k_ => (w.heap.size ≤ k_)) ho30 (below_size (oB HB)) (fun k_ h_ => h_)) (below_size (oB HB))) (o1_ (below_step (oB HB) hb)); clear HB; obtain ⟨bM, HB⟩ := n_; clear hb ho30))
    go_ret
    exact ⟨_, by first | rfl | (simp [errW_none, errW_some] <;> rfl) | (simp [*, errW_none, errW_some] <;> rfl), Kd.V_mono (Kd.R_V (by (with_reducible repeat (first | apply Kd.R_alloc | apply Kd.R_drewN | apply Kd.R_drew)); exact Kd.R_mono bM.out (fun _ hk => hk.1))) (fun k_ hk => by first | exact ⟨(.inr (hk.1)), hk.2⟩ | exact (.inr (hk))), oB HB⟩

end Go.Proofs.Ytfnkaccncmjnaaa.X
