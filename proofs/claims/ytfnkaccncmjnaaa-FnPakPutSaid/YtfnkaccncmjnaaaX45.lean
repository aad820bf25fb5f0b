/- What functions of the program come to, each with its proof. No condition but what each theorem states. -/
import Derived.Test.YtfnkaccncmjnaaaX0
import Derived.Test.YtfnkaccncmjnaaaX4
import Derived.Test.YtfnkaccncmjnaaaX44
namespace Go.Proofs.Ytfnkaccncmjnaaa.X
open Go.RowKit Go.Proofs.YtfnkaccncmjnaaaW.PrintWords Go.Proofs.YtfnkaccncmjnaaaW.PrintLast Go.Proofs.YtfnkaccncmjnaaaW.PrintMore Go.Proofs.Ytfnkaccncmjnaaa.Hyb
attribute [local go_sem] max2_int min2_int max_two min_two max_three min_three max_four min_four
set_option linter.unusedVariables false
set_option linter.unusedSimpArgs false

/-! ### spec_PakPut: function 31 -/
/-- What lies between two places of a list. -/
def midL {α : Type} (l : List α) (a b : Int) : List α := (l.take b.toNat).drop a.toNat
theorem print_midL {α : Type} {P : Program} (enc : α → Value) (d : α) (t e : TypeId) (kl kh : IntKind) {i : TypeInfo} (ht : P.underlying t = some (.slice e)) (hi : P.info? e = some i) (hsz : i.size = 1) (A : Option Addr) (c : Nat) (xs : List α) (a b : Int) (h0 : 0 ≤ a) (h1 : a ≤ b) (hm : b ≤ xs.length) (hc : xs.length ≤ c) :
  ∃ A' : Option Addr, (∀ W : World, (Instr.slice t (.slice A xs.length c) (some (.int kl a)) (some (.int kh b)) none).run P W = .ok (.slice A' (midL xs a b).length (c - a.toNat)) W) ∧
   (∀ w : World, ReadsOf enc d w A xs.length xs → ReadsOf enc d w A' (midL xs a b).length (midL xs a b)) ∧ (midL xs a b).length ≤ c - a.toNat := print_mid_of enc d t e kl kh ht hi hsz A c xs a b h0 h1 hm hc
mutual
def spec_PakPut.l0 : Nat → List Int → List (List Int) → List (S36) → Int → Option (List Int)
 | 0, _, _, _, _ => none
 | k + 1, x0, x3, x4, x5 => if x5 < (x0.length : Int) then (spec_PakPut.l1 k x0 x3 x4 x5 1) else (if x4.length < 8796093022208 then ((spec_BitPut.f k (x4 ++ [(⟨256, 9⟩ : S36)])).bind fun bB => (some bB)) else (none))
def spec_PakPut.l1 : Nat → List Int → List (List Int) → List (S36) → Int → Int → Option (List Int)
 | 0, _, _, _, _, _ => none
 | k + 1, x0, x3, x4, x5, x6 => if (wrap64 (x5 + x6)) < (x0.length : Int) then (if 0 ≤ x5 then (if x5 ≤ (wrap64 ((wrap64 (x5 + x6)) + 1)) then (if (wrap64 ((wrap64 (x5 + x6)) + 1)) ≤ (x0.length : Int) then ((spec_l4Code.f k x3 (midL x0 x5 (wrap64 ((wrap64 (x5 + x6)) + 1)))).bind fun aT => (if aT ≥ 0 then (spec_PakPut.l1 k x0 x3 x4 x5 (wrap64 (x6 + 1))) else (if x5 ≤ (wrap64 (x5 + x6)) then (if (wrap64 (x5 + x6)) ≤ (x0.length : Int) then ((spec_l4Code.f k x3 (midL x0 x5 (wrap64 (x5 + x6)))).bind fun aJ => (if x4.length < 8796093022208 then ((some (x4 ++ [(⟨aJ, 9⟩ : S36)] : List (S36))).bind fun aM => (if (wrap64 (257 + (x3.length : Int))) < 512 then ((some (([] : List Int) : List Int)).bind fun aK => (if aK.length + (midL x0 x5 (wrap64 ((wrap64 (x5 + x6)) + 1))).length < 140737488355328 then (if x3.length < 5864062014805 then (spec_PakPut.l0 k x0 (x3 ++ [(aK ++ (midL x0 x5 (wrap64 ((wrap64 (x5 + x6)) + 1))))]) aM (wrap64 (x5 + x6))) else (none)) else (none))) else (spec_PakPut.l0 k x0 x3 aM (wrap64 (x5 + x6))))) else (none))) else (none)) else (none)))) else (none)) else (none)) else (none)) else (if 0 ≤ x5 then (if x5 ≤ (wrap64 (x5 + x6)) then (if (wrap64 (x5 + x6)) ≤ (x0.length : Int) then ((spec_l4Code.f k x3 (midL x0 x5 (wrap64 (x5 + x6)))).bind fun aU => (if x4.length < 8796093022208 then (spec_PakPut.l0 k x0 x3 (x4 ++ [(⟨aU, 9⟩ : S36)]) (wrap64 (x5 + x6))) else (none))) else (none)) else (none)) else (none))
end
def spec_PakPut.f (k : Nat) (l0 : List Int) : Option (List Int) := if (l0.length : Int) > 200 then (some (([] : List Int))) else (spec_PakPut.l0 k l0 (([] : List (List Int))) (([] : List (S36))) 0)
theorem spec_PakPut.mono_l : ∀ k, (∀ y0 y1 y2 y3, LeO (spec_PakPut.l0 k y0 y1 y2 y3) (spec_PakPut.l0 (k + 1) y0 y1 y2 y3)) ∧ (∀ y0 y1 y2 y3 y4, LeO (spec_PakPut.l1 k y0 y1 y2 y3 y4) (spec_PakPut.l1 (k + 1) y0 y1 y2 y3 y4))
 | 0 => ⟨(fun _ _ _ _ r h => nomatch (show none = some r from h)), (fun _ _ _ _ _ r h => nomatch (show none = some r from h))⟩
 | k + 1 => by
  obtain ⟨ih0, ih1⟩ := spec_PakPut.mono_l k
  refine ⟨?_, ?_⟩
  ·intro y0 y1 y2 y3
   unfold spec_PakPut.l0
   repeat' first
   | (with_reducible exact ih0 _ _ _ _)
   | (with_reducible exact ih1 _ _ _ _ _)
   | (with_reducible exact spec_BitPut.mono _ _)
   | (with_reducible exact spec_l4Code.mono _ _ _)
   | (with_reducible exact LeO.refl _)
   | (with_reducible exact LeO.none _)
   | (with_reducible refine LeO.ite ?_ ?_)
   | (with_reducible refine LeO.bind ?_ (fun _ => ?_))
   | exact ih0 _ _ _ _
   | exact ih1 _ _ _ _ _
   | exact spec_BitPut.mono _ _
   | exact spec_l4Code.mono _ _ _
   | exact LeO.none _
   | refine LeO.ite ?_ ?_
   | refine LeO.bind ?_ (fun _ => ?_)
  ·intro y0 y1 y2 y3 y4
   unfold spec_PakPut.l1
   repeat' first
   | (with_reducible exact ih0 _ _ _ _)
   | (with_reducible exact ih1 _ _ _ _ _)
   | (with_reducible exact spec_BitPut.mono _ _)
   | (with_reducible exact spec_l4Code.mono _ _ _)
   | (with_reducible exact LeO.refl _)
   | (with_reducible exact LeO.none _)
   | (with_reducible refine LeO.ite ?_ ?_)
   | (with_reducible refine LeO.bind ?_ (fun _ => ?_))
   | exact ih0 _ _ _ _
   | exact ih1 _ _ _ _ _
   | exact spec_BitPut.mono _ _
   | exact spec_l4Code.mono _ _ _
   | exact LeO.none _
   | refine LeO.ite ?_ ?_
   | refine LeO.bind ?_ (fun _ => ?_)
theorem spec_PakPut.mono : ∀ a0 k, LeO (spec_PakPut.f k a0) (spec_PakPut.f (k + 1) a0) := by
 intro a0 k
 obtain ⟨ih0, ih1⟩ := spec_PakPut.mono_l k
 unfold spec_PakPut.f
 repeat' first
   | (with_reducible exact ih0 _ _ _ _)
   | (with_reducible exact ih1 _ _ _ _ _)
   | (with_reducible exact spec_BitPut.mono _ _)
   | (with_reducible exact spec_l4Code.mono _ _ _)
   | (with_reducible exact LeO.refl _)
   | (with_reducible exact LeO.none _)
   | (with_reducible refine LeO.ite ?_ ?_)
   | (with_reducible refine LeO.bind ?_ (fun _ => ?_))
   | exact ih0 _ _ _ _
   | exact ih1 _ _ _ _ _
   | exact spec_BitPut.mono _ _
   | exact spec_l4Code.mono _ _ _
   | exact LeO.none _
   | refine LeO.ite ?_ ?_
   | refine LeO.bind ?_ (fun _ => ?_)
set_option maxHeartbeats 8000000 in
set_option maxRecDepth 100000 in
theorem spec_PakPut.calls (k : Nat) (A0 : Option Addr) (c0 : Nat) (l0 : List Int) (r : List Int) (w : World) (hr0 : Kd.C (Kd.int .u8) w A0 l0.length l0) (eK : l0.length ≤ c0) (h : spec_PakPut.f k l0 = some r) :
  Calls Try.prog 31 #[.slice A0 l0.length c0] w fun e w' => ∃ eL : Value, e = .returned (eL) ∧ Kd.R (Kd.int .u8) 5 w' w.heap.size (fun _ => True) eL r ∧ Below w.heap.size w w' := by
 have hu36 := Try.underlying36
 have bN := Aside0.mk hr0
 have bM := Aside0.mk eK
 clear hr0 eK
 have HB := Aside0.mk (Below.refl w.heap.size w)
 have H : (if (l0.length : Int) > 200 then (some (([] : List Int))) else (spec_PakPut.l0 k l0 (([] : List (List Int))) (([] : List (S36))) 0)) = some r := h
 clear h
 by_cases c2 : (l0.length : Int) > 200
 ·rw [if_pos c2] at H
  have bK : decide (200 < (l0.length : Int)) = true := decide_eq_true c2
  have bL : decide (200 < l0.length) = true := decide_eq_true (by omega)
  clear c2
  obtain ⟨y440, hy440⟩ : ∃ y_ : List Int, y_ = (([] : List Int)) := ⟨_, rfl⟩
  replace H : (some y440) = some r := by first | (rw [hy440]; with_reducible exact H) | (have H2_ := (Option.bind_some _ _).symm.trans H; rw [hy440]; with_reducible exact H2_) | (have H2_ := (Option.bind_some _ _).symm.trans H; with_reducible exact H2_) | with_reducible exact H | (rw [hy440]; exact H) | exact H
  have bF := Aside0.mk hy440
  clear hy440
  obtain rfl := Option.some.inj H
  go_enter Try.func31, Try.ntmps31
  go_wp2_with (first | ((with_reducible refine gate_dst (N := 10) rfl ?_); (try (refine gate_guard (by rfl) ?_; dsimp only)); refine Kd.R_lit (Kd.int .u8) _ 5 ?hg (N := 10) ?hd (xs := ([] : List Int)) (inner := []) (ok := fun _ => True) (okp := fun _ => True) ?hr ?hp (fun _ hk => hk) trivial (Below.refl _ _) (Nat.le_refl _) (by simp) ?_; (case hd => rfl); (case hg => rfl); (case hr => first | (go_simp; done) | (go_simp; rfl)); (case hp => exact (Reps.none _ _)); intro eT w3 ho4 hb hg_ hnew_; clear hg_ hnew_; (first | rw [← bF.out] at ho4 | (simp only [Int.reduceToNat] at ho4; rw [← bF.out] at ho4)); have n_ := o2_ (Kd.R_lower ho4 (below_size (oB HB))) (o1_ (below_step (oB HB) hb)); clear HB; obtain ⟨bX, HB⟩ := n_; clear hb ho4))
  go_ret
  exact ⟨_, by first | rfl | (simp [errW_none, errW_some] <;> rfl) | (simp [*, errW_none, errW_some] <;> rfl), by (with_reducible repeat (first | apply Kd.R_alloc | apply Kd.R_drewN | apply Kd.R_drew)); exact bX.out, oB HB⟩
 ·rw [if_neg c2] at H
  have bK : decide (200 < (l0.length : Int)) = false := decide_eq_false c2
  have bL : decide (200 < l0.length) = false := decide_eq_false (by omega)
  clear c2
  obtain ⟨y443, hy443⟩ : ∃ y_ : List (List Int), y_ = (([] : List (List Int))) := ⟨_, rfl⟩
  replace H : (spec_PakPut.l0 k l0 y443 (([] : List (S36))) 0) = some r := by first | (rw [hy443]; with_reducible exact H) | (have H2_ := (Option.bind_some _ _).symm.trans H; rw [hy443]; with_reducible exact H2_) | (have H2_ := (Option.bind_some _ _).symm.trans H; with_reducible exact H2_) | with_reducible exact H | (rw [hy443]; exact H) | exact H
  have bG := Aside0.mk hy443
  clear hy443
  obtain ⟨y446, hy446⟩ : ∃ y_ : List (S36), y_ = (([] : List (S36))) := ⟨_, rfl⟩
  replace H : (spec_PakPut.l0 k l0 y443 y446 0) = some r := by first | (rw [hy446]; with_reducible exact H) | (have H2_ := (Option.bind_some _ _).symm.trans H; rw [hy446]; with_reducible exact H2_) | (have H2_ := (Option.bind_some _ _).symm.trans H; with_reducible exact H2_) | with_reducible exact H | (rw [hy446]; exact H) | exact H
  have bH := Aside0.mk hy446
  clear hy446
  have H' := Aside0.mk H
  clear H
  go_enter Try.func31, Try.ntmps31
  go_wp2_with (first | ((with_reducible refine gate_dst (N := 11) rfl ?_); (try (refine gate_guard (by rfl) ?_; dsimp only)); refine Kd.S_lit (Kd.slice 5 (Kd.int .u8)) _ 24 ?hg (N := 11) ?hd (xs := ([] : List (List Int))) (inner := []) (ok := fun _ => True) (okp := fun _ => True) ?hr ?hp (fun _ hk => hk) trivial (Below.refl _ _) (Nat.le_refl _) (by simp) ?_; (case hd => rfl); (case hg => rfl); (case hr => first | (go_simp; done) | (go_simp; rfl)); (case hp => exact (Reps.none _ _)); intro eU w5 ho6 hb hg_ hnew_; clear hg_ hnew_; (first | rw [← bG.out] at ho6 | (simp only [Int.reduceToNat] at ho6; rw [← bG.out] at ho6)); have n_ := o2_ (Kd.S_lower ho6 (below_size (oB HB))) (o1_ (below_step (oB HB) hb)); clear HB; obtain ⟨aV, HB⟩ := n_; clear hb ho6) | ((with_reducible refine gate_dst (N := 12) rfl ?_); (try (refine gate_guard (by rfl) ?_; dsimp only)); refine Kd.R_lit k36 _ 36 ?hg (N := 12) ?hd (xs := ([] : List (S36))) (inner := []) (ok := fun _ => True) (okp := fun _ => True) ?hr ?hp (fun _ hk => hk) trivial (Below.refl _ _) (Nat.le_refl _) (by simp) ?_; (case hd => rfl); (case hg => rfl); (case hr => first | (go_simp; done) | (go_simp; rfl)); (case hp => exact (Reps.none _ _)); intro eV w7 ho8 hb hg_ hnew_; clear hg_ hnew_; (first | rw [← bH.out] at ho8 | (simp only [Int.reduceToNat] at ho8; rw [← bH.out] at ho8)); have n_ := o2_ (Kd.S_below (by (with_reducible repeat (first | apply Kd.S_alloc | apply Kd.S_drewN | apply Kd.S_drew)); exact aV.out) hb) (o2_ (Kd.R_lower ho8 (below_size (oB HB))) (o1_ (below_step (oB HB) hb))); clear aV HB; obtain ⟨aV, bY, HB⟩ := n_; clear hb ho8))
  go_loopg [3, 4, 5] k (fun kq v3 v4 v5 w' => ∃ (aE : List (List Int)) (aH : List (S36)) (aA : Int), v5 = .int .i64 aA ∧ Aside0 (spec_PakPut.l0 kq l0 aE aH aA = some r) ∧ Aside0 (kq ≤ k) ∧ Aside0 (Kd.S (Kd.slice 5 (Kd.int .u8)) 24 w' w.heap.size (fun _ => True) v3 aE) ∧ Aside0 (Kd.R k36 36 w' w.heap.size (fun _ => True) v4 aH) ∧ Aside0 (Below w.heap.size w w'))
  case atStart => exact ⟨(y443), (y446), (0), oU, H', ⟨Nat.le_refl _⟩, ⟨(by (with_reducible repeat (first | apply Kd.S_alloc | apply Kd.S_drewN | apply Kd.S_drew)); exact aV.out)⟩, ⟨(oR bY)⟩, ⟨(oB HB)⟩⟩
  case round =>
   clear H'
   try clear c2
   try clear bK
   try clear bL
   try clear p2
   try clear c3
   obtain ⟨aE, aH, aA, rfl, HA, HK1, aD, aI, HB⟩ := hrel
   cases gk with
   | zero => exact nomatch (show none = some _ from HA.out)
   | succ k1 =>
    have H := HA.out
    clear HA
    simp only [spec_PakPut.l0] at H
    by_cases c9 : aA < (l0.length : Int)
    ·rw [if_pos c9] at H
     have cM : decide (aA < (l0.length : Int)) = true := decide_eq_true c9
     clear c9
     have H' := Aside0.mk H
     clear H
     go_wp2
     go_loopg [6] k1 (fun kq v6 w' => ∃ (aC : Int), v6 = .int .i64 aC ∧ Aside0 (spec_PakPut.l1 kq l0 aE aH aA aC = some r) ∧ Aside0 (kq ≤ k1) ∧ Aside0 (Kd.S (Kd.slice 5 (Kd.int .u8)) 24 w' w.heap.size (fun _ => True) u3 aE) ∧ Aside0 (Kd.R k36 36 w' w.heap.size (fun _ => True) u4 aH) ∧ Aside0 (Below w.heap.size w w'))
     case atStart => exact ⟨(1), oU, H', ⟨Nat.le_refl _⟩, ⟨(by (with_reducible repeat (first | apply Kd.S_alloc | apply Kd.S_drewN | apply Kd.S_drew)); exact aD.out)⟩, ⟨(oR aI)⟩, ⟨(oB HB)⟩⟩
     case round =>
      clear H'
      try clear c2
      try clear bK
      try clear bL
      try clear p2
      try clear c3
      try clear c9
      try clear cM
      try clear p2
      obtain ⟨aC, rfl, HA, HK2, aD, aI, HB⟩ := hrel
      cases gk with
      | zero => exact nomatch (show none = some _ from HA.out)
      | succ k2 =>
       have H := HA.out
       clear HA
       simp only [spec_PakPut.l1] at H
       by_cases bO : (wrap64 (aA + aC)) < (l0.length : Int)
       ·rw [if_pos bO] at H
        have cH : decide ((wrap64 (aA + aC)) < (l0.length : Int)) = true := decide_eq_true bO
        clear bO
        by_cases cI : 0 ≤ aA
        ·rw [if_pos cI] at H
         have dQ := eq_true cI
         have dR : decide (0 ≤ aA) = true := decide_eq_true cI
         clear cI
         by_cases cO : aA ≤ (wrap64 ((wrap64 (aA + aC)) + 1))
         ·rw [if_pos cO] at H
          have dS := eq_true cO
          have dT : decide (aA ≤ (wrap64 ((wrap64 (aA + aC)) + 1))) = true := decide_eq_true cO
          by_cases cP : (wrap64 ((wrap64 (aA + aC)) + 1)) ≤ (l0.length : Int)
          ·rw [if_pos cP] at H
           have dU := eq_true cP
           have dV : decide ((wrap64 ((wrap64 (aA + aC)) + 1)) ≤ (l0.length : Int)) = true := decide_eq_true cP
           replace H := Option.bind_eq_some_iff.mp H
           obtain ⟨aT, bR, H⟩ := H
           (try dsimp only at H)
           have cZ := Aside0.mk bR
           clear bR
           by_cases bP : aT ≥ 0
           ·rw [if_pos bP] at H
            have cJ : decide (0 ≤ aT) = true := decide_eq_true bP
            clear bP
            have H' := Aside0.mk H
            clear H
            obtain ⟨i016, hi016, _, hsz16, _⟩ := info_parts info5
            obtain ⟨fB, hcut16, hA16, hC16⟩ := print_midL (P := Try.prog) (Value.int .u8) 0 24 5 .i64 .i64 Try.underlying24 hi016 hsz16 A0 c0 l0 aA (wrap64 ((wrap64 (aA + aC)) + 1)) (of_decide_eq_true oM) (by first | omega | exact of_decide_eq_true oM) (of_decide_eq_true oM) bM.out
            have aQ := Aside0.mk (Kd.C_of_reads (h1 := fun _ => rfl) (hA16 _ (Kd.reads_of_C bN.out)))
            have aN := Aside0.mk hC16
            clear hA16 hC16 hi016 hsz16
            obtain ⟨eR, eS, dG⟩ := Kd.S_slice aD.out
            subst dG
            go_wp2_with (first | (go_at_call 52; (with_reducible refine (spec_l4Code.calls k2 _ _ aE _ _ (midL l0 aA (wrap64 ((wrap64 (aA + aC)) + 1))) aT _ ?side1 ?side2 ?side3 ?side4 cZ.out).mono ?_); (case side1 => repeat (first | exact (Kd.S_reads' aD.out).2.2 | (with_reducible refine Kd.C_alloc ?_ _) | (with_reducible refine Kd.C_drewN ?_ _) | (with_reducible refine Kd.C_drew ?_))); (case side2 => exact (Kd.S_reads' aD.out).2.1); (case side3 => repeat (first | exact (Kd.C_below aQ.out HB.out) | (with_reducible refine Kd.C_alloc ?_ _) | (with_reducible refine Kd.C_drewN ?_ _) | (with_reducible refine Kd.C_drew ?_))); (case side4 => exact aN.out); rintro e w' ⟨rfl, ⟨nd, rfl⟩⟩))
            go_roundg k2
            case measure => have := HK1.out; have := HK2.out; omega
            case rel => exact ⟨(wrap64 (aC + 1)), oU, H', ⟨(by have := HK1.out; have := HK2.out; omega)⟩, ⟨(by (with_reducible repeat (first | apply Kd.S_alloc | apply Kd.S_drewN | apply Kd.S_drew)); exact aD.out)⟩, ⟨(oR aI)⟩, ⟨(oB HB)⟩⟩
           ·rw [if_neg bP] at H
            have cJ : decide (0 ≤ aT) = false := decide_eq_false bP
            clear bP
            have dW := eq_true (of_decide_eq_true oM : 0 ≤ aA)
            by_cases cQ : aA ≤ (wrap64 (aA + aC))
            ·rw [if_pos cQ] at H
             have dX := eq_true cQ
             have dY : decide (aA ≤ (wrap64 (aA + aC))) = true := decide_eq_true cQ
             by_cases cR : (wrap64 (aA + aC)) ≤ (l0.length : Int)
             ·rw [if_pos cR] at H
              have dZ := eq_true cR
              have eA : decide ((wrap64 (aA + aC)) ≤ (l0.length : Int)) = true := decide_eq_true cR
              replace H := Option.bind_eq_some_iff.mp H
              obtain ⟨aJ, bS, H⟩ := H
              (try dsimp only at H)
              have dO := Aside0.mk bS
              clear bS
              by_cases cS : aH.length < 8796093022208
              ·rw [if_pos cS] at H
               have LMc22 := Aside0.mk cS
               clear cS
               obtain ⟨aM, hy459⟩ : ∃ y_ : List (S36), y_ = (aH ++ [(⟨aJ, 9⟩ : S36)]) := ⟨_, rfl⟩
               replace H : (if (wrap64 (257 + (aE.length : Int))) < 512 then ((some (([] : List Int) : List Int)).bind fun aK => (if aK.length + (midL l0 aA (wrap64 ((wrap64 (aA + aC)) + 1))).length < 140737488355328 then (if aE.length < 5864062014805 then (spec_PakPut.l0 k2 l0 (aE ++ [(aK ++ (midL l0 aA (wrap64 ((wrap64 (aA + aC)) + 1))))]) aM (wrap64 (aA + aC))) else (none)) else (none))) else (spec_PakPut.l0 k2 l0 aE aM (wrap64 (aA + aC)))) = some r := by first | (rw [hy459]; with_reducible exact H) | (have H2_ := (Option.bind_some _ _).symm.trans H; rw [hy459]; with_reducible exact H2_) | (have H2_ := (Option.bind_some _ _).symm.trans H; with_reducible exact H2_) | with_reducible exact H | (rw [hy459]; exact H) | exact H
               have bI := Aside0.mk hy459
               clear hy459
               by_cases bQ : (wrap64 (257 + (aE.length : Int))) < 512
               ·rw [if_pos bQ] at H
                have cK : decide ((wrap64 (257 + (aE.length : Int))) < 512) = true := decide_eq_true bQ
                clear bQ
                obtain ⟨aK, hy462⟩ : ∃ y_ : List Int, y_ = (([] : List Int)) := ⟨_, rfl⟩
                replace H : (if aK.length + (midL l0 aA (wrap64 ((wrap64 (aA + aC)) + 1))).length < 140737488355328 then (if aE.length < 5864062014805 then (spec_PakPut.l0 k2 l0 (aE ++ [(aK ++ (midL l0 aA (wrap64 ((wrap64 (aA + aC)) + 1))))]) aM (wrap64 (aA + aC))) else (none)) else (none)) = some r := by first | (rw [hy462]; with_reducible exact H) | (have H2_ := (Option.bind_some _ _).symm.trans H; rw [hy462]; with_reducible exact H2_) | (have H2_ := (Option.bind_some _ _).symm.trans H; with_reducible exact H2_) | with_reducible exact H | (rw [hy462]; exact H) | exact H
                have bJ := Aside0.mk hy462
                clear hy462
                have eB := eq_true (of_decide_eq_true oM : 0 ≤ aA)
                have eC := eq_true (of_decide_eq_true oM : aA ≤ (wrap64 ((wrap64 (aA + aC)) + 1)))
                have eD := eq_true (of_decide_eq_true oM : (wrap64 ((wrap64 (aA + aC)) + 1)) ≤ (l0.length : Int))
                by_cases cT : aK.length + (midL l0 aA (wrap64 ((wrap64 (aA + aC)) + 1))).length < 140737488355328
                ·rw [if_pos cT] at H
                 have LMc27 := Aside0.mk cT
                 clear cT
                 obtain ⟨y466, hy466⟩ : ∃ y_ : List Int, y_ = (aK ++ (midL l0 aA (wrap64 ((wrap64 (aA + aC)) + 1)))) := ⟨_, rfl⟩
                 replace H : (if aE.length < 5864062014805 then (spec_PakPut.l0 k2 l0 (aE ++ [y466]) aM (wrap64 (aA + aC))) else (none)) = some r := by first | (rw [hy466]; with_reducible exact H) | (have H2_ := (Option.bind_some _ _).symm.trans H; rw [hy466]; with_reducible exact H2_) | (have H2_ := (Option.bind_some _ _).symm.trans H; with_reducible exact H2_) | with_reducible exact H | (rw [hy466]; exact H) | exact H
                 have cE := Aside0.mk hy466
                 clear hy466
                 by_cases cU : aE.length < 5864062014805
                 ·rw [if_pos cU] at H
                  have LMc28 := Aside0.mk cU
                  clear cU
                  obtain ⟨y469, hy469⟩ : ∃ y_ : List (List Int), y_ = (aE ++ [y466]) := ⟨_, rfl⟩
                  replace H : (spec_PakPut.l0 k2 l0 y469 aM (wrap64 (aA + aC))) = some r := by first | (rw [hy469]; with_reducible exact H) | (have H2_ := (Option.bind_some _ _).symm.trans H; rw [hy469]; with_reducible exact H2_) | (have H2_ := (Option.bind_some _ _).symm.trans H; with_reducible exact H2_) | with_reducible exact H | (rw [hy469]; exact H) | exact H
                  have cF := Aside0.mk hy469
                  clear hy469
                  have H' := Aside0.mk H
                  clear H
                  obtain ⟨i029, hi029, _, hsz29, _⟩ := info_parts info5
                  obtain ⟨fC, hcut29, hA29, hC29⟩ := print_midL (P := Try.prog) (Value.int .u8) 0 24 5 .i64 .i64 Try.underlying24 hi029 hsz29 A0 c0 l0 aA (wrap64 ((wrap64 (aA + aC)) + 1)) (of_decide_eq_true oM) (by first | omega | exact of_decide_eq_true oM) (of_decide_eq_true oM) bM.out
                  have aQ := Aside0.mk (Kd.C_of_reads (h1 := fun _ => rfl) (hA29 _ (Kd.reads_of_C bN.out)))
                  have aN := Aside0.mk hC29
                  clear hA29 hC29 hi029 hsz29
                  obtain ⟨bC, bD, dH⟩ := Kd.S_slice aD.out
                  subst dH
                  go_wp2_with (first | (go_at_call 52; (with_reducible refine (spec_l4Code.calls k2 _ _ aE _ _ (midL l0 aA (wrap64 ((wrap64 (aA + aC)) + 1))) aT _ ?side1 ?side2 ?side3 ?side4 cZ.out).mono ?_); (case side1 => repeat (first | exact (Kd.S_reads' aD.out).2.2 | (with_reducible refine Kd.C_alloc ?_ _) | (with_reducible refine Kd.C_drewN ?_ _) | (with_reducible refine Kd.C_drew ?_))); (case side2 => exact (Kd.S_reads' aD.out).2.1); (case side3 => repeat (first | exact (Kd.C_below aQ.out HB.out) | (with_reducible refine Kd.C_alloc ?_ _) | (with_reducible refine Kd.C_drewN ?_ _) | (with_reducible refine Kd.C_drew ?_))); (case side4 => exact aN.out); rintro e w' ⟨rfl, ⟨nd, rfl⟩⟩; obtain ⟨i031, hi031, _, hsz31, _⟩ := info_parts info5; obtain ⟨eM, hcut31, hA31, hC31⟩ := print_midL (P := Try.prog) (Value.int .u8) 0 24 5 .i64 .i64 Try.underlying24 hi031 hsz31 A0 c0 l0 aA (wrap64 (aA + aC)) (of_decide_eq_true oM) (by first | omega | exact of_decide_eq_true oM) (of_decide_eq_true oM) bM.out; have bA := Aside0.mk (Kd.C_of_reads (h1 := fun _ => rfl) (hA31 _ (Kd.reads_of_C bN.out))); have aX := Aside0.mk hC31; clear hA31 hC31 hi031 hsz31) | ((with_reducible refine gate_callee (f := 52) rfl ?_); refine goesL_ (some 45) rfl rfl Try.func52 oK rfl #[.slice bC aE.length bD, .slice eM (midL l0 aA (wrap64 (aA + aC))).length (c0 - aA.toNat)] rfl (by (try simp only [List.map_toArray, List.map_cons, List.map_nil]); first | done | (rw [show (midL l0 aA (wrap64 (aA + aC))).length = ((wrap64 (aA + aC)).toNat - aA.toNat) from (by unfold midL; rw [List.length_drop, List.length_take]; have h_ : ((wrap64 (aA + aC)) : Int) ≤ (l0.length : Int) := of_decide_eq_true oM; omega)] <;> rfl) | rfl | (simp only [List.length_drop, List.length_take]; rfl)) ?_; (with_reducible refine (spec_l4Code.calls k2 _ _ aE _ _ (midL l0 aA (wrap64 (aA + aC))) aJ _ ?side1 ?side2 ?side3 ?side4 dO.out).mono ?_); (case side1 => repeat (first | exact (Kd.S_reads' aD.out).2.2 | (with_reducible refine Kd.C_alloc ?_ _) | (with_reducible refine Kd.C_drewN ?_ _) | (with_reducible refine Kd.C_drew ?_))); (case side2 => exact (Kd.S_reads' aD.out).2.1); (case side3 => repeat (first | exact (Kd.C_below bA.out (oB HB)) | (with_reducible refine Kd.C_alloc ?_ _) | (with_reducible refine Kd.C_drewN ?_ _) | (with_reducible refine Kd.C_drew ?_))); (case side4 => exact aX.out); rintro e w' ⟨rfl, ⟨nd, rfl⟩⟩; refine ⟨_, rfl, ?_⟩) | ((with_reducible refine gate_builtin (b := .append) (xs := #[.tmp 37, .tmp 47]) rfl ?_); (try (refine gate_guard (by rfl) ?_; dsimp only)); at_builtin; refine Kd.R_append k36 (w0 := w) w.heap.size rfl (.tmp 37) (.tmp 47) 26 36 (.agg #[(.int .i64 0), (.int .i64 0)]) 16 rfl Try.underlying26 info36 rfl oD (by omega) u4 aH (⟨aJ, 9⟩ : S36) [.int .i64 aJ, .int .i64 9] (fun _ => True) (fun _ => False) rfl rfl ?aP (fun _ hk => hk.elim) ?aF ?aO ?aB ?aS ?aL ?_; (case aP => exact k36_mkM _ _ _ (⟨aJ, 9⟩ : S36)); (case aB => exact (oB HB)); (case aF => exact (fun _ _ => trivial)); (case aO => exact (oR aI)); (case aS => exact (below_size (oB HB))); (case aL => have := LMc22.out; omega); intro dM fE ho hb hg hat; rw [← bI.out] at ho; have n_ := o2_ (Kd.S_over' (by (with_reducible repeat (first | apply Kd.S_alloc | apply Kd.S_drewN | apply Kd.S_drew)); exact aD.out) (Kd.R_typed (oR aI)) oD hg) (o2_ (hb) (o1_ (ho))); clear aD HB aI; obtain ⟨aD, HB, aG⟩ := n_; clear ho hb hg hat) | ((with_reducible refine gate_dst (N := 62) rfl ?_); (try (refine gate_guard (by rfl) ?_; dsimp only)); refine Kd.R_lit (Kd.int .u8) _ 5 ?hg (N := 62) ?hd (xs := ([] : List Int)) (inner := []) (ok := fun _ => True) (okp := fun _ => True) ?hr ?hp (fun _ hk => hk) trivial (Below.refl _ _) (Nat.le_refl _) (by simp) ?_; (case hd => rfl); (case hg => rfl); (case hr => first | (go_simp; done) | (go_simp; rfl)); (case hp => exact (Reps.none _ _)); intro dN fF ho34 hb hg_ hnew_; clear hg_ hnew_; (first | rw [← bJ.out] at ho34 | (simp only [Int.reduceToNat] at ho34; rw [← bJ.out] at ho34)); have n_ := o2_ (Kd.S_elder' (by (with_reducible repeat (first | apply Kd.S_alloc | apply Kd.S_drewN | apply Kd.S_drew)); exact aD.out) (Kd.R_base ho34) hb) (o2_ (Kd.R_below (oR aG) hb) (o2_ (Kd.R_lower ho34 (below_size (oB HB))) (o1_ (below_step (oB HB) hb)))); clear aD aG HB; obtain ⟨aD, aG, aZ, HB⟩ := n_; clear hb ho34; have bE := aQ; have dP := aN) | ((with_reducible refine gate_builtin (b := .append) (xs := #[.tmp 62, .tmp 69]) rfl ?_); (try (refine gate_guard (by rfl) ?_; dsimp only)); at_builtin; refine Kd.R_append_rows (Kd.int .u8) (w0 := w) w.heap.size rfl (.tmp 62) (.tmp 69) 24 5 (.int .u8 0) 1 rfl Try.underlying24 info5 rfl oD (by omega) dN aK (midL l0 aA (wrap64 ((wrap64 (aA + aC)) + 1))) _ _ _ (fun _ => True) (fun _ => False) rfl rfl ?aO ?aR (fun _ _ h => h) (fun _ h => h.elim) ?aF ?aB ?aS ?aL ?_; (case aR => first | (rw [← show (midL l0 aA (wrap64 ((wrap64 (aA + aC)) + 1))).length = ((wrap64 ((wrap64 (aA + aC)) + 1)).toNat - aA.toNat) from (by unfold midL; rw [List.length_drop, List.length_take]; have h_ : ((wrap64 ((wrap64 (aA + aC)) + 1)) : Int) ≤ (l0.length : Int) := of_decide_eq_true oM; omega)]; repeat (first | exact (Kd.C_below bE.out HB.out) | (with_reducible refine Kd.C_alloc ?_ _) | (with_reducible refine Kd.C_drewN ?_ _) | (with_reducible refine Kd.C_drew ?_))) | (repeat (first | exact (Kd.C_below bE.out HB.out) | (with_reducible refine Kd.C_alloc ?_ _) | (with_reducible refine Kd.C_drewN ?_ _) | (with_reducible refine Kd.C_drew ?_)))); (case aB => exact (oB HB)); (case aF => exact (fun _ _ => trivial)); (case aO => exact (oR aZ)); (case aS => exact (below_size (oB HB))); (case aL => have := LMc27.out; have hlx_ := (show (midL l0 aA (wrap64 ((wrap64 (aA + aC)) + 1))).length = ((wrap64 ((wrap64 (aA + aC)) + 1)).toNat - aA.toNat) from (by unfold midL; rw [List.length_drop, List.length_take]; have h_ : ((wrap64 ((wrap64 (aA + aC)) + 1)) : Int) ≤ (l0.length : Int) := of_decide_eq_true oM; omega)); omega); intro eY fG ho hb hg hat; rw [← cE.out] at ho; have n_ := o2_ (Kd.S_after (ok := (fun _ => True)) (by (with_reducible repeat (first | apply Kd.S_alloc | apply Kd.S_drewN | apply Kd.S_drew)); exact aD.out) hg hat) (o2_ (Kd.R_over' (oR aG) (Kd.R_typed (oR aZ)) oD hg) (o2_ (hb) (o1_ (ho)))); clear aD aG HB aZ; obtain ⟨aD, aG, HB, aW⟩ := n_; clear ho hb hg hat; obtain ⟨bV, cN, dI⟩ := Kd.R_slice aW.out; subst dI) | ((with_reducible refine gate_builtin (b := .append) (xs := #[.tmp 61, .tmp 71]) rfl ?_); (try (refine gate_guard (by rfl) ?_; dsimp only)); at_builtin; refine Kd.S_append (Kd.slice 5 (Kd.int .u8)) (w0 := w) w.heap.size rfl (.tmp 61) (.tmp 71) 63 24 (.slice none 0 0) 24 rfl Try.underlying63 info24 rfl oD (by omega) (.slice bC aE.length bD) aE y466 [.slice bV y466.length cN] (fun _ => True) (fun k_ => some k_ = (.slice bV y466.length cN : Value).ownBlock) rfl rfl ?aP (fun k_ hk_ => ((Kd.R_mono (ok' := fun k_ => ((fun _ => True)) k_ ∧ some k_ ≠ (.slice bC aE.length bD : Value).ownBlock) (Kd.R_apart' (aW.out) (Kd.S_typed aD.out) oD) (fun k_ hk => ⟨trivial, hk.2⟩))).1 k_ hk_.symm) ?aF ?aO ?aB ?aS ?aL ?_; (case aP => exact Kd.M_row (Kd.R_mono (Kd.R_tight rfl (Kd.R_mono (ok' := fun k_ => ((fun _ => True)) k_ ∧ some k_ ≠ (.slice bC aE.length bD : Value).ownBlock) (Kd.R_apart' (aW.out) (Kd.S_typed aD.out) oD) (fun k_ hk => ⟨trivial, hk.2⟩))) (fun _ h_ => h_))); (case aB => exact (oB HB)); (case aF => exact (fun _ _ => trivial)); (case aO => exact (by (with_reducible repeat (first | apply Kd.S_alloc | apply Kd.S_drewN | apply Kd.S_drew)); exact Kd.S_mono aD.out (fun k_ hk => ⟨trivial, fun e_ => hk.2 e_⟩))); (case aS => exact (below_size (oB HB))); (case aL => have := LMc28.out; omega); intro eZ fH ho hb hg hat; rw [← cF.out] at ho; have n_ := o2_ (Kd.R_over' (oR aG) (Kd.S_typed (by (with_reducible repeat (first | apply Kd.S_alloc | apply Kd.S_drewN | apply Kd.S_drew)); exact aD.out)) oD hg) (o2_ (hb) (o1_ (ho))); clear aG HB aD aW; obtain ⟨aG, HB, cA⟩ := n_; clear ho hb hg hat))
                  go_roundg k2
                  case measure => have := HK1.out; have := HK2.out; omega
                  case rel => exact ⟨(y469), (aM), (wrap64 (aA + aC)), oU, H', ⟨(by have := HK1.out; have := HK2.out; omega)⟩, ⟨(by (with_reducible repeat (first | apply Kd.S_alloc | apply Kd.S_drewN | apply Kd.S_drew)); exact cA.out)⟩, ⟨(oR aG)⟩, ⟨(oB HB)⟩⟩
                 ·rw [if_neg cU] at H
                  exact absurd H (by simp)
                ·rw [if_neg cT] at H
                 exact absurd H (by simp)
               ·rw [if_neg bQ] at H
                have cK : decide ((wrap64 (257 + (aE.length : Int))) < 512) = false := decide_eq_false bQ
                clear bQ
                have H' := Aside0.mk H
                clear H
                obtain ⟨i039, hi039, _, hsz39, _⟩ := info_parts info5
                obtain ⟨fD, hcut39, hA39, hC39⟩ := print_midL (P := Try.prog) (Value.int .u8) 0 24 5 .i64 .i64 Try.underlying24 hi039 hsz39 A0 c0 l0 aA (wrap64 ((wrap64 (aA + aC)) + 1)) (of_decide_eq_true oM) (by first | omega | exact of_decide_eq_true oM) (of_decide_eq_true oM) bM.out
                have aQ := Aside0.mk (Kd.C_of_reads (h1 := fun _ => rfl) (hA39 _ (Kd.reads_of_C bN.out)))
                have aN := Aside0.mk hC39
                clear hA39 hC39 hi039 hsz39
                obtain ⟨dA, dD, dJ⟩ := Kd.S_slice aD.out
                subst dJ
                go_wp2_with (first | (go_at_call 52; (with_reducible refine (spec_l4Code.calls k2 _ _ aE _ _ (midL l0 aA (wrap64 ((wrap64 (aA + aC)) + 1))) aT _ ?side1 ?side2 ?side3 ?side4 cZ.out).mono ?_); (case side1 => repeat (first | exact (Kd.S_reads' aD.out).2.2 | (with_reducible refine Kd.C_alloc ?_ _) | (with_reducible refine Kd.C_drewN ?_ _) | (with_reducible refine Kd.C_drew ?_))); (case side2 => exact (Kd.S_reads' aD.out).2.1); (case side3 => repeat (first | exact (Kd.C_below aQ.out HB.out) | (with_reducible refine Kd.C_alloc ?_ _) | (with_reducible refine Kd.C_drewN ?_ _) | (with_reducible refine Kd.C_drew ?_))); (case side4 => exact aN.out); rintro e w' ⟨rfl, ⟨nd, rfl⟩⟩; obtain ⟨i041, hi041, _, hsz41, _⟩ := info_parts info5; obtain ⟨eN, hcut41, hA41, hC41⟩ := print_midL (P := Try.prog) (Value.int .u8) 0 24 5 .i64 .i64 Try.underlying24 hi041 hsz41 A0 c0 l0 aA (wrap64 (aA + aC)) (of_decide_eq_true oM) (by first | omega | exact of_decide_eq_true oM) (of_decide_eq_true oM) bM.out; have bA := Aside0.mk (Kd.C_of_reads (h1 := fun _ => rfl) (hA41 _ (Kd.reads_of_C bN.out))); have aX := Aside0.mk hC41; clear hA41 hC41 hi041 hsz41) | ((with_reducible refine gate_callee (f := 52) rfl ?_); refine goesL_ (some 45) rfl rfl Try.func52 oK rfl #[.slice dA aE.length dD, .slice eN (midL l0 aA (wrap64 (aA + aC))).length (c0 - aA.toNat)] rfl (by (try simp only [List.map_toArray, List.map_cons, List.map_nil]); first | done | (rw [show (midL l0 aA (wrap64 (aA + aC))).length = ((wrap64 (aA + aC)).toNat - aA.toNat) from (by unfold midL; rw [List.length_drop, List.length_take]; have h_ : ((wrap64 (aA + aC)) : Int) ≤ (l0.length : Int) := of_decide_eq_true oM; omega)] <;> rfl) | rfl | (simp only [List.length_drop, List.length_take]; rfl)) ?_; (with_reducible refine (spec_l4Code.calls k2 _ _ aE _ _ (midL l0 aA (wrap64 (aA + aC))) aJ _ ?side1 ?side2 ?side3 ?side4 dO.out).mono ?_); (case side1 => repeat (first | exact (Kd.S_reads' aD.out).2.2 | (with_reducible refine Kd.C_alloc ?_ _) | (with_reducible refine Kd.C_drewN ?_ _) | (with_reducible refine Kd.C_drew ?_))); (case side2 => exact (Kd.S_reads' aD.out).2.1); (case side3 => repeat (first | exact (Kd.C_below bA.out (oB HB)) | (with_reducible refine Kd.C_alloc ?_ _) | (with_reducible refine Kd.C_drewN ?_ _) | (with_reducible refine Kd.C_drew ?_))); (case side4 => exact aX.out); rintro e w' ⟨rfl, ⟨nd, rfl⟩⟩; refine ⟨_, rfl, ?_⟩) | ((with_reducible refine gate_builtin (b := .append) (xs := #[.tmp 37, .tmp 47]) rfl ?_); (try (refine gate_guard (by rfl) ?_; dsimp only)); at_builtin; refine Kd.R_append k36 (w0 := w) w.heap.size rfl (.tmp 37) (.tmp 47) 26 36 (.agg #[(.int .i64 0), (.int .i64 0)]) 16 rfl Try.underlying26 info36 rfl oD (by omega) u4 aH (⟨aJ, 9⟩ : S36) [.int .i64 aJ, .int .i64 9] (fun _ => True) (fun _ => False) rfl rfl ?aP (fun _ hk => hk.elim) ?aF ?aO ?aB ?aS ?aL ?_; (case aP => exact k36_mkM _ _ _ (⟨aJ, 9⟩ : S36)); (case aB => exact (oB HB)); (case aF => exact (fun _ _ => trivial)); (case aO => exact (oR aI)); (case aS => exact (below_size (oB HB))); (case aL => have := LMc22.out; omega); intro dM fI ho hb hg hat; rw [← bI.out] at ho; have n_ := o2_ (Kd.S_over' (by (with_reducible repeat (first | apply Kd.S_alloc | apply Kd.S_drewN | apply Kd.S_drew)); exact aD.out) (Kd.R_typed (oR aI)) oD hg) (o2_ (hb) (o1_ (ho))); clear aD HB aI; obtain ⟨aD, HB, aG⟩ := n_; clear ho hb hg hat))
                go_roundg k2
                case measure => have := HK1.out; have := HK2.out; omega
                case rel => exact ⟨(aE), (aM), (wrap64 (aA + aC)), oU, H', ⟨(by have := HK1.out; have := HK2.out; omega)⟩, ⟨(by (with_reducible repeat (first | apply Kd.S_alloc | apply Kd.S_drewN | apply Kd.S_drew)); exact aD.out)⟩, ⟨(oR aG)⟩, ⟨(oB HB)⟩⟩
              ·rw [if_neg cS] at H
               exact absurd H (by simp)
             ·rw [if_neg cR] at H
              exact absurd H (by simp)
            ·rw [if_neg cQ] at H
             exact absurd H (by simp)
          ·rw [if_neg cP] at H
           exact absurd H (by simp)
         ·rw [if_neg cO] at H
          exact absurd H (by simp)
        ·rw [if_neg cI] at H
         exact absurd H (by simp)
       ·rw [if_neg bO] at H
        have cH : decide ((wrap64 (aA + aC)) < (l0.length : Int)) = false := decide_eq_false bO
        clear bO
        by_cases cL : 0 ≤ aA
        ·rw [if_pos cL] at H
         have eE := eq_true cL
         have eF : decide (0 ≤ aA) = true := decide_eq_true cL
         clear cL
         by_cases cV : aA ≤ (wrap64 (aA + aC))
         ·rw [if_pos cV] at H
          have eG := eq_true cV
          have eH : decide (aA ≤ (wrap64 (aA + aC))) = true := decide_eq_true cV
          by_cases cW : (wrap64 (aA + aC)) ≤ (l0.length : Int)
          ·rw [if_pos cW] at H
           have eI := eq_true cW
           have eJ : decide ((wrap64 (aA + aC)) ≤ (l0.length : Int)) = true := decide_eq_true cW
           replace H := Option.bind_eq_some_iff.mp H
           obtain ⟨aU, bT, H⟩ := H
           (try dsimp only at H)
           have eO := Aside0.mk bT
           clear bT
           by_cases cX : aH.length < 8796093022208
           ·rw [if_pos cX] at H
            have LMc47 := Aside0.mk cX
            clear cX
            obtain ⟨y474, hy474⟩ : ∃ y_ : List (S36), y_ = (aH ++ [(⟨aU, 9⟩ : S36)]) := ⟨_, rfl⟩
            replace H : (spec_PakPut.l0 k2 l0 aE y474 (wrap64 (aA + aC))) = some r := by first | (rw [hy474]; with_reducible exact H) | (have H2_ := (Option.bind_some _ _).symm.trans H; rw [hy474]; with_reducible exact H2_) | (have H2_ := (Option.bind_some _ _).symm.trans H; with_reducible exact H2_) | with_reducible exact H | (rw [hy474]; exact H) | exact H
            have cG := Aside0.mk hy474
            clear hy474
            have H' := Aside0.mk H
            clear H
            obtain ⟨i048, hi048, _, hsz48, _⟩ := info_parts info5
            obtain ⟨eP, hcut48, hA48, hC48⟩ := print_midL (P := Try.prog) (Value.int .u8) 0 24 5 .i64 .i64 Try.underlying24 hi048 hsz48 A0 c0 l0 aA (wrap64 (aA + aC)) (of_decide_eq_true oM) (by first | omega | exact of_decide_eq_true oM) (of_decide_eq_true oM) bM.out
            have cC := Aside0.mk (Kd.C_of_reads (h1 := fun _ => rfl) (hA48 _ (Kd.reads_of_C bN.out)))
            have bW := Aside0.mk hC48
            clear hA48 hC48 hi048 hsz48
            obtain ⟨dB, dE, dK⟩ := Kd.S_slice aD.out
            subst dK
            go_wp2_with (first | ((with_reducible refine gate_callee (f := 52) rfl ?_); refine goesL_ (some 45) rfl rfl Try.func52 oK rfl #[.slice dB aE.length dE, .slice eP (midL l0 aA (wrap64 (aA + aC))).length (c0 - aA.toNat)] rfl (by (try simp only [List.map_toArray, List.map_cons, List.map_nil]); first | done | (rw [show (midL l0 aA (wrap64 (aA + aC))).length = ((wrap64 (aA + aC)).toNat - aA.toNat) from (by unfold midL; rw [List.length_drop, List.length_take]; have h_ : ((wrap64 (aA + aC)) : Int) ≤ (l0.length : Int) := of_decide_eq_true oM; omega)] <;> rfl) | rfl | (simp only [List.length_drop, List.length_take]; rfl)) ?_; (with_reducible refine (spec_l4Code.calls k2 _ _ aE _ _ (midL l0 aA (wrap64 (aA + aC))) aU _ ?side1 ?side2 ?side3 ?side4 eO.out).mono ?_); (case side1 => repeat (first | exact (Kd.S_reads' aD.out).2.2 | (with_reducible refine Kd.C_alloc ?_ _) | (with_reducible refine Kd.C_drewN ?_ _) | (with_reducible refine Kd.C_drew ?_))); (case side2 => exact (Kd.S_reads' aD.out).2.1); (case side3 => repeat (first | exact (Kd.C_below cC.out HB.out) | (with_reducible refine Kd.C_alloc ?_ _) | (with_reducible refine Kd.C_drewN ?_ _) | (with_reducible refine Kd.C_drew ?_))); (case side4 => exact bW.out); rintro e w' ⟨rfl, ⟨nd, rfl⟩⟩; refine ⟨_, rfl, ?_⟩) | ((with_reducible refine gate_builtin (b := .append) (xs := #[.tmp 37, .tmp 47]) rfl ?_); (try (refine gate_guard (by rfl) ?_; dsimp only)); at_builtin; refine Kd.R_append k36 (w0 := w) w.heap.size rfl (.tmp 37) (.tmp 47) 26 36 (.agg #[(.int .i64 0), (.int .i64 0)]) 16 rfl Try.underlying26 info36 rfl oD (by omega) u4 aH (⟨aU, 9⟩ : S36) [.int .i64 aU, .int .i64 9] (fun _ => True) (fun _ => False) rfl rfl ?aP (fun _ hk => hk.elim) ?aF ?aO ?aB ?aS ?aL ?_; (case aP => exact k36_mkM _ _ _ (⟨aU, 9⟩ : S36)); (case aB => exact (oB HB)); (case aF => exact (fun _ _ => trivial)); (case aO => exact (oR aI)); (case aS => exact (below_size (oB HB))); (case aL => have := LMc47.out; omega); intro fA fJ ho hb hg hat; rw [← cG.out] at ho; have n_ := o2_ (Kd.S_over' (by (with_reducible repeat (first | apply Kd.S_alloc | apply Kd.S_drewN | apply Kd.S_drew)); exact aD.out) (Kd.R_typed (oR aI)) oD hg) (o2_ (hb) (o1_ (ho))); clear aD HB aI; obtain ⟨aD, HB, cB⟩ := n_; clear ho hb hg hat))
            go_roundg k2
            case measure => have := HK1.out; have := HK2.out; omega
            case rel => exact ⟨(aE), (y474), (wrap64 (aA + aC)), oU, H', ⟨(by have := HK1.out; have := HK2.out; omega)⟩, ⟨(by (with_reducible repeat (first | apply Kd.S_alloc | apply Kd.S_drewN | apply Kd.S_drew)); exact aD.out)⟩, ⟨(oR cB)⟩, ⟨(oB HB)⟩⟩
           ·rw [if_neg cX] at H
            exact absurd H (by simp)
          ·rw [if_neg cW] at H
           exact absurd H (by simp)
         ·rw [if_neg cV] at H
          exact absurd H (by simp)
        ·rw [if_neg cL] at H
         exact absurd H (by simp)
    ·rw [if_neg c9] at H
     have cM : decide (aA < (l0.length : Int)) = false := decide_eq_false c9
     clear c9
     by_cases cY : aH.length < 8796093022208
     ·rw [if_pos cY] at H
      have LMc51 := Aside0.mk cY
      clear cY
      obtain ⟨y449, hy449⟩ : ∃ y_ : List (S36), y_ = (aH ++ [(⟨256, 9⟩ : S36)]) := ⟨_, rfl⟩
      replace H : ((spec_BitPut.f k1 y449).bind fun bB => (some bB)) = some r := by first | (rw [hy449]; with_reducible exact H) | (have H2_ := (Option.bind_some _ _).symm.trans H; rw [hy449]; with_reducible exact H2_) | (have H2_ := (Option.bind_some _ _).symm.trans H; with_reducible exact H2_) | with_reducible exact H | (rw [hy449]; exact H) | exact H
      have cD := Aside0.mk hy449
      clear hy449
      replace H := Option.bind_eq_some_iff.mp H
      obtain ⟨bB, bU, H⟩ := H
      (try dsimp only at H)
      have eQ := Aside0.mk bU
      clear bU
      obtain rfl := Option.some.inj H
      go_wp2_with (first | ((with_reducible refine gate_builtin (b := .append) (xs := #[.tmp 76, .tmp 78]) rfl ?_); (try (refine gate_guard (by rfl) ?_; dsimp only)); at_builtin; refine Kd.R_append k36 (w0 := w) w.heap.size rfl (.tmp 76) (.tmp 78) 26 36 (.agg #[(.int .i64 0), (.int .i64 0)]) 16 rfl Try.underlying26 info36 rfl oD (by omega) u4 aH (⟨256, 9⟩ : S36) [.int .i64 256, .int .i64 9] (fun _ => True) (fun _ => False) rfl rfl ?aP (fun _ hk => hk.elim) ?aF ?aO ?aB ?aS ?aL ?_; (case aP => exact k36_mkM _ _ _ (⟨256, 9⟩ : S36)); (case aB => exact (oB HB)); (case aF => exact (fun _ _ => trivial)); (case aO => exact (oR aI)); (case aS => exact (below_size (oB HB))); (case aL => have := LMc51.out; omega); intro eW fK ho hb hg hat; rw [← cD.out] at ho; have n_ := o2_ (hb) (o1_ (ho)); clear HB aI; obtain ⟨HB, aY⟩ := n_; clear ho hb hg hat; obtain ⟨dC, dF, dL⟩ := Kd.R_slice aY.out; subst dL) | ((with_reducible refine gate_callee (f := 14) rfl ?_); refine goesL_ (some 80) rfl rfl Try.func14 oK rfl #[.slice dC y449.length dF] rfl oA ?_; (with_reducible refine (spec_BitPut.calls k1 _ _ y449 bB _ ?side1 ?side2 eQ.out).mono ?_); (case side1 => repeat (first | exact (Kd.R_reads' aY.out).2.2 | (with_reducible refine Kd.C_alloc ?_ _) | (with_reducible refine Kd.C_drewN ?_ _) | (with_reducible refine Kd.C_drew ?_))); (case side2 => exact (Kd.R_reads' aY.out).2.1); rintro e fL ⟨eX, rfl, ho0, hb⟩; refine ⟨_, rfl, ?_⟩; have n_ := o2_ (Kd.R_lower ho0 (below_size (oB HB))) (o1_ (below_step (oB HB) hb)); clear HB; obtain ⟨bZ, HB⟩ := n_; (try clear hb); (try clear hb2); (try clear hk); (try clear hi); (try clear ho0)))
      go_ret
      exact ⟨_, by first | rfl | (simp [errW_none, errW_some] <;> rfl) | (simp [*, errW_none, errW_some] <;> rfl), by (with_reducible repeat (first | apply Kd.R_alloc | apply Kd.R_drewN | apply Kd.R_drew)); exact bZ.out, oB HB⟩
     ·rw [if_neg cY] at H
      exact absurd H (by simp)

end Go.Proofs.Ytfnkaccncmjnaaa.X
