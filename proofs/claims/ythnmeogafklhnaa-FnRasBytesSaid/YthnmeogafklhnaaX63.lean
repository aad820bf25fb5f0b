/- What functions of the program come to, each with its proof. No condition but what each theorem states. -/
import Derived.Test.YthnmeogafklhnaaX0
namespace Go.Proofs.Ythnmeogafklhnaa.X
open Go.RowKit Go.Proofs.YthnmeogafklhnaaW.PrintWords Go.Proofs.YthnmeogafklhnaaW.PrintLast Go.Proofs.YthnmeogafklhnaaW.PrintMore Go.Proofs.Ythnmeogafklhnaa.Hyb
attribute [local go_sem] max2_int min2_int max_two min_two max_three min_three max_four min_four
set_option linter.unusedVariables false
set_option linter.unusedSimpArgs false

/-! ### spec_RasRead: function 31 -/
mutual
def spec_RasRead.j0 : Nat → List Int → Bool → Int → Int → Option (Int × Int × (List (S38)) × Bool)
 | 0, _, _, _, _ => none
 | k + 1, x0, x38, x1221000, x1221001 => if x38 = true then (some (0, 0, ([] : List (S38)), false)) else (spec_RasRead.l0 k x0 2 x1221000 x1221001 ([] : List (S38)))
def spec_RasRead.l0 : Nat → List Int → Int → Int → Int → List (S38) → Option (Int × Int × (List (S38)) × Bool)
 | 0, _, _, _, _, _ => none
 | k + 1, x0, x5, x1221000, x1221001, x1221002 => if x5 < (x0.length : Int) then (if 0 ≤ x5 then (if 0 ≤ (wrap64 (x5 + 1)) then (if (wrap64 (x5 + 1)) < (x0.length : Int) then (if 0 ≤ (wrap64 (x5 + 2)) then (if (wrap64 (x5 + 2)) < (x0.length : Int) then (if 0 ≤ (wrap64 (x5 + 3)) then (if (wrap64 (x5 + 3)) < (x0.length : Int) then (if x1221002.length < 4398046511104 then (spec_RasRead.l0 k x0 (wrap64 (x5 + 4)) x1221000 x1221001 (x1221002 ++ [(⟨wrap64 (rd x0 x5), wrap64 (rd x0 (wrap64 (x5 + 1))), wrap64 (rd x0 (wrap64 (x5 + 2))), wrap64 (rd x0 (wrap64 (x5 + 3)))⟩ : S38)])) else (none)) else (none)) else (none)) else (none)) else (none)) else (none)) else (none)) else (none)) else (some (x1221000, x1221001, x1221002, true))
end
def spec_RasRead.f (k : Nat) (l0 : List Int) : Option (Int × Int × (List (S38)) × Bool) := if (l0.length : Int) < 6 then (some (0, 0, ([] : List (S38)), false)) else (if 0 < (l0.length : Int) then (if 1 < (l0.length : Int) then (if (wrap64 (rd l0 0)) > 6 then (spec_RasRead.j0 k l0 true (wrap64 (rd l0 0)) (wrap64 (rd l0 1))) else (if (wrap64 (rd l0 1)) > 6 then (spec_RasRead.j0 k l0 true (wrap64 (rd l0 0)) (wrap64 (rd l0 1))) else (spec_RasRead.j0 k l0 ((l0.length : Int) != (wrap64 (2 + (wrap64 ((wrap64 (4 * (wrap64 (rd l0 0)))) * (wrap64 (rd l0 1))))))) (wrap64 (rd l0 0)) (wrap64 (rd l0 1))))) else (none)) else (none))
theorem spec_RasRead.mono_l : ∀ k, (∀ y0 y1 y2 y3, LeO (spec_RasRead.j0 k y0 y1 y2 y3) (spec_RasRead.j0 (k + 1) y0 y1 y2 y3)) ∧ (∀ y0 y1 y2 y3 y4, LeO (spec_RasRead.l0 k y0 y1 y2 y3 y4) (spec_RasRead.l0 (k + 1) y0 y1 y2 y3 y4))
 | 0 => ⟨(fun _ _ _ _ r h => nomatch (show none = some r from h)), (fun _ _ _ _ _ r h => nomatch (show none = some r from h))⟩
 | k + 1 => by
  obtain ⟨ih0, ih1⟩ := spec_RasRead.mono_l k
  refine ⟨?_, ?_⟩
  ·intro y0 y1 y2 y3
   unfold spec_RasRead.j0
   repeat' first
   | (with_reducible exact ih0 _ _ _ _)
   | (with_reducible exact ih1 _ _ _ _ _)
   | (with_reducible exact LeO.refl _)
   | (with_reducible exact LeO.none _)
   | (with_reducible refine LeO.ite ?_ ?_)
   | (with_reducible refine LeO.bind ?_ (fun _ => ?_))
   | exact ih0 _ _ _ _
   | exact ih1 _ _ _ _ _
   | exact LeO.none _
   | refine LeO.ite ?_ ?_
   | refine LeO.bind ?_ (fun _ => ?_)
  ·intro y0 y1 y2 y3 y4
   unfold spec_RasRead.l0
   repeat' first
   | (with_reducible exact ih0 _ _ _ _)
   | (with_reducible exact ih1 _ _ _ _ _)
   | (with_reducible exact LeO.refl _)
   | (with_reducible exact LeO.none _)
   | (with_reducible refine LeO.ite ?_ ?_)
   | (with_reducible refine LeO.bind ?_ (fun _ => ?_))
   | exact ih0 _ _ _ _
   | exact ih1 _ _ _ _ _
   | exact LeO.none _
   | refine LeO.ite ?_ ?_
   | refine LeO.bind ?_ (fun _ => ?_)
theorem spec_RasRead.mono : ∀ a0 k, LeO (spec_RasRead.f k a0) (spec_RasRead.f (k + 1) a0) := by
 intro a0 k
 obtain ⟨ih0, ih1⟩ := spec_RasRead.mono_l k
 unfold spec_RasRead.f
 repeat' first
   | (with_reducible exact ih0 _ _ _ _)
   | (with_reducible exact ih1 _ _ _ _ _)
   | (with_reducible exact LeO.refl _)
   | (with_reducible exact LeO.none _)
   | (with_reducible refine LeO.ite ?_ ?_)
   | (with_reducible refine LeO.bind ?_ (fun _ => ?_))
   | exact ih0 _ _ _ _
   | exact ih1 _ _ _ _ _
   | exact LeO.none _
   | refine LeO.ite ?_ ?_
   | refine LeO.bind ?_ (fun _ => ?_)
def spec_RasRead.T3 : Bool × List (List Nat × List Nat) := (true, [([], []), ([0], [0]), ([1], [1]), ([2], [2]), ([], []), ([4], [4]), ([5], [5]), ([6], [6]), ([3, 7], [3, 7]), ([], []), ([9, 8, 0, 1, 2, 3, 4, 5, 6, 7, 8, 9], [8, 9])])
def spec_RasRead.B3 : List Nat := [0, 1, 3, 7, 0, 16, 48, 112, 255, 0, 1023]
theorem spec_RasRead.tab3 : rtab .any (opsOf Try.f31 3) = spec_RasRead.T3 := by kernel_rfl
theorem spec_RasRead.bits3 : waitsOk spec_RasRead.T3.2 spec_RasRead.B3 = true := by kernel_rfl
def spec_RasRead.T9 : Bool × List (List Nat × List Nat) := (true, [([], []), ([0], [0]), ([], []), ([], []), ([2, 3], [2, 3]), ([4], [4]), ([5], [5]), ([], []), ([], []), ([8], [8]), ([7, 9], [7, 9]), ([10], [10]), ([11], [11]), ([], []), ([], []), ([14], [14]), ([13, 15], [13, 15]), ([16], [16]), ([17], [17]), ([], []), ([], []), ([20], [20]), ([19, 21], [19, 21]), ([22], [22]), ([23], [23]), ([6, 12, 18, 24], [6, 12, 18, 24]), ([25], [25]), ([1, 26], [1, 26]), ([0, 1, 2, 3, 4, 5, 6, 7, 8, 9, 10, 11, 12, 13, 14, 15, 16, 17, 18, 19, 20, 21, 22, 23, 24, 25, 26, 27], []), ([28, 27, 27, 0, 1, 2, 3, 4, 5, 6, 7, 8, 9, 10, 11, 12, 13, 14, 15, 16, 17, 18, 19, 20, 21, 22, 23, 24, 25, 26, 27], [27, 28])])
def spec_RasRead.B9 : List Nat := [0, 1, 0, 0, 12, 28, 60, 0, 0, 256, 896, 1920, 3968, 0, 0, 16384, 57344, 122880, 253952, 0, 0, 1048576, 3670016, 7864320, 16252928, 33554428, 67108860, 134217727, 268435455, 536870911]
theorem spec_RasRead.tab9 : rtab .any (opsOf Try.f31 9) = spec_RasRead.T9 := by kernel_rfl
theorem spec_RasRead.bits9 : waitsOk spec_RasRead.T9.2 spec_RasRead.B9 = true := by kernel_rfl
set_option maxHeartbeats 8000000 in
set_option maxRecDepth 100000 in
theorem spec_RasRead.calls (k : Nat) (A0 : Option Addr) (c0 : Nat) (l0 : List Int) (r1 : Int) (r2 : Int) (r3 : List (S38)) (r4 : Bool) (w : World) (hr0 : Kd.C (Kd.int .u8) w A0 l0.length l0) (fG : l0.length ≤ c0) (h : spec_RasRead.f k l0 = some (r1, r2, r3, r4)) :
  Calls Try.prog 31 #[.slice A0 l0.length c0] w fun e w' => ∃ fS : Value, e = .returned (.tuple #[.agg #[.int .i64 r1, .int .i64 r2, fS], .bool r4]) ∧ Kd.R k38 38 w' w.heap.size (fun _ => True) fS r3 ∧ Below w.heap.size w w' := by
 have hu25 := Try.underlying25
 have hu38 := Try.underlying38
 have dF := Aside0.mk hr0
 have fV := Aside0.mk fG
 clear hr0 fG
 have HB := Aside0.mk (Below.refl w.heap.size w)
 have H : (if (l0.length : Int) < 6 then (some (0, 0, ([] : List (S38)), false)) else (if 0 < (l0.length : Int) then (if 1 < (l0.length : Int) then (if (wrap64 (rd l0 0)) > 6 then (spec_RasRead.j0 k l0 true (wrap64 (rd l0 0)) (wrap64 (rd l0 1))) else (if (wrap64 (rd l0 1)) > 6 then (spec_RasRead.j0 k l0 true (wrap64 (rd l0 0)) (wrap64 (rd l0 1))) else (spec_RasRead.j0 k l0 ((l0.length : Int) != (wrap64 (2 + (wrap64 ((wrap64 (4 * (wrap64 (rd l0 0)))) * (wrap64 (rd l0 1))))))) (wrap64 (rd l0 0)) (wrap64 (rd l0 1))))) else (none)) else (none))) = some (r1, r2, r3, r4) := h
 clear h
 by_cases c2 : (l0.length : Int) < 6
 ·rw [if_pos c2] at H
  have dD : decide ((l0.length : Int) < 6) = true := decide_eq_true c2
  have dE : decide (l0.length < 6) = true := decide_eq_true (by omega)
  clear c2
  simp only [Option.some.injEq, Prod.mk.injEq] at H
  obtain ⟨rfl, rfl, rfl, rfl⟩ := H
  go_enter Try.func31, Try.ntmps31
  go_wp2_with (first | ((with_reducible refine gate_dst (N := 2) rfl ?_); (try (refine gate_guard (by rfl) ?_; dsimp only)); refine box_event rfl (N := 2) rfl (cs := #[.int .i64 0, .int .i64 0, .slice none 0 0]) (t := 25) oS ?_; intro aH hg w3 hbox hb; have n_ := o2_ (below_step (oB HB) hb) (o2_ (hbox) (o2_ ((oG hg (below_size (oB HB)) : w.heap.size ≤ aH)) (o1_ ((oG hg (below_size (oB HB)) : w.heap.size ≤ aH))))); clear HB; obtain ⟨HB, aC, cW, cV⟩ := n_; clear hb hbox hg; have bZ : w3.cell? ⟨aH, 0, none⟩ = some (.int .i64 0) := (blk_cell aC.out 0).trans rfl; have cA : w3.cell? ⟨aH, 1, none⟩ = some (.int .i64 0) := (blk_cell aC.out 1).trans rfl; have cB : w3.cell? ⟨aH, 2, none⟩ = some (.slice none 0 0) := (blk_cell aC.out 2).trans rfl; have cC := blk_frozen aC.out 0; have cD := blk_frozen aC.out 1; have cE := blk_frozen aC.out 2))
  refine bodyPost_ret (results_ct rfl _ _ aH 25 #[.int .i64 0, .int .i64 0, .slice none 0 0] (0, 0) _ rfl (blk_put (blk_put (blk_put aC.out 0 _ rfl) 1 _ rfl) 2 _ rfl) Try.underlying25 rfl oK) rfl ?_
  exact ⟨_, by first | rfl | (simp [errW_none, errW_some] <;> rfl) | (simp [*, errW_none, errW_some] <;> rfl), by first | exact Kd.R_nil _ _ _ _ _ | exact Kd.N_nil _ _ _ _ _ | exact Kd.V_nil _ _ _ _ _ | exact Kd.Q_nil _ _ _ _ _ | exact Kd.S_nil _ _ _ _ _, oB HB⟩
 ·rw [if_neg c2] at H
  have dD : decide ((l0.length : Int) < 6) = false := decide_eq_false c2
  have dE : decide (l0.length < 6) = false := decide_eq_false (by omega)
  clear c2
  by_cases c5 : 0 < (l0.length : Int)
  ·rw [if_pos c5] at H
   have dL : decide (0 < (l0.length : Int)) = true := decide_eq_true c5
   have dM : decide (0 < l0.length) = true := decide_eq_true (by omega)
   clear c5
   by_cases c6 : 1 < (l0.length : Int)
   ·rw [if_pos c6] at H
    have dN : decide (1 < (l0.length : Int)) = true := decide_eq_true c6
    have dO : decide (1 < l0.length) = true := decide_eq_true (by omega)
    clear c6
    have eT := Aside0.mk H
    clear H
    go_enter Try.func31, Try.ntmps31
    try go_wp2_with (first | ((with_reducible refine gate_dst (N := 2) rfl ?_); (try (refine gate_guard (by rfl) ?_; dsimp only)); refine box_event rfl (N := 2) rfl (cs := #[.int .i64 0, .int .i64 0, .slice none 0 0]) (t := 25) oS ?_; intro aH hg w8 hbox hb; have n_ := o2_ (below_step (oB HB) hb) (o2_ (hbox) (o2_ ((oG hg (below_size (oB HB)) : w.heap.size ≤ aH)) (o1_ ((oG hg (below_size (oB HB)) : w.heap.size ≤ aH))))); clear HB; obtain ⟨HB, aC, cW, cV⟩ := n_; clear hb hbox hg))
    have n_ := o2_ (blk_drew aC.out) (o1_ (below_drew1 HB.out))
    clear aC HB
    obtain ⟨aC, HB⟩ := n_
    have aZ : 0 ≤ (0 : Int) := (by omega)
    have bB : 0 < (l0.length : Int) := of_decide_eq_true oM
    obtain ⟨aR, dR, aN⟩ := Kd.at_int dF.out 0 aZ bB
    have hw1218_0 := aN
    (try rw [show ((0 : Int)).toNat = 0 from rfl] at hw1218_0)
    (try rw [show 0 * 1 = 0 from rfl] at hw1218_0)
    (try rw [Addr.add_zero'] at hw1218_0)
    cases dR
    have qi1218 : (0 < l0.length) = True := eq_true (by omega)
    (try rw [show ((0 : Int)).toNat = 0 from rfl] at aN)
    (try rw [Addr.add_zero'] at aN)
    replace aN := (HB.out.cell (World.block_lt_of_cell? w _ aN)).trans aN
    replace aZ := eq_true aZ
    replace bB := eq_true bB
    have bA : 0 ≤ (1 : Int) := (by omega)
    have bC : 1 < (l0.length : Int) := of_decide_eq_true oM
    obtain ⟨cY, dS, aQ⟩ := Kd.at_int dF.out 1 bA bC
    have hw1219_0 := aQ
    (try rw [show ((1 : Int)).toNat = 1 from rfl] at hw1219_0)
    (try rw [show 1 * 1 = 1 from rfl] at hw1219_0)
    (try simp only [Nat.reduceMul, Nat.reduceEqDiff, Go.Addr.add, ↓reduceIte] at hw1219_0)
    obtain rfl : aR = cY := (by injection dS)
    (try simp only [show (1 : Int).toNat = 1 from rfl, Nat.reduceMul, Nat.reduceEqDiff, Go.Addr.add, ↓reduceIte] at aQ)
    have qi1219 : (1 < l0.length) = True := eq_true (by omega)
    (try rw [show ((1 : Int)).toNat = 1 from rfl] at aQ)
    replace aQ := (HB.out.cell (World.block_lt_of_cell? w _ aQ)).trans aQ
    replace bA := eq_true bA
    replace bC := eq_true bC
    refine start_ (n := 11) (S := fun w' => w'.cell? aR = some (.int .u8 (rd l0 0)) ∧ w'.cell? ⟨aR.block, aR.off + 1, none⟩ = some (.int .u8 (rd l0 1))) (ds := []) #[false, false, false, false, false, false, false, false, false, false, false] oK rfl rfl ⟨((HB.out.cell (World.block_lt_of_cell? w _ hw1218_0)).trans hw1218_0), ((HB.out.cell (World.block_lt_of_cell? w _ hw1219_0)).trans hw1219_0)⟩ (fun hHeld => ?_); refine with_tabW spec_RasRead.tab3 spec_RasRead.bits3 (fun HT_ HW_ => ?_)
    generalize w8.drew = w9 at aC HB aN aQ hHeld ⊢
    refine pure_ (i := 0) (N := some 10) (v := ?_) (a' := ?_) #[true, false, false, false, false, false, false, false, false, false, false] rfl rfl (any_of HT_.out oK) (fun _ _ _ h => h) (Or.inl ⟨by rfl, ?_⟩) ?_ ?_
    rotate_left
    ·intro w'
     go_simp
     with_reducible rfl
    rotate_left
    ·exact oT
    refine pure_ (i := 1) (N := some 11) (v := ?_) (a' := ?_) #[true, true, false, false, false, false, false, false, false, false, false] rfl rfl (any_of HT_.out oK) (fun _ _ _ h => h) (Or.inl ⟨by rfl, ?_⟩) ?_ ?_
    rotate_left
    ·intro w'
     go_simp
     with_reducible rfl
    rotate_left
    ·exact oT
    refine pure_ (i := 4) (N := some 14) (v := ?_) (a' := ?_) #[true, true, false, false, true, false, false, false, false, false, false] rfl rfl (any_of HT_.out oK) (fun _ _ _ h => h) (Or.inl ⟨by rfl, ?_⟩) ?_ ?_
    rotate_left
    ·intro w'
     go_simp
     with_reducible rfl
    rotate_left
    ·exact oT
    refine pure_ (i := 5) (N := some 15) (v := ?_) (a' := ?_) #[true, true, false, false, true, true, false, false, false, false, false] rfl rfl (any_of HT_.out oK) (fun _ _ _ h => h) (Or.inl ⟨by rfl, ?_⟩) ?_ ?_
    rotate_left
    ·intro w'
     go_simp
     with_reducible rfl
    rotate_left
    ·exact oT
    refine take_ (i := 2) (N := some 12) (v := ?_) (a' := ?_) #[true, true, true, false, true, true, false, false, false, false, false] rfl rfl (take_ofW HT_.out HW_.out oK) (fun _ _ _ h => h) (Or.inl ⟨by rfl, ?_⟩) hHeld ?_ ?_
    rotate_left
    ·rintro w' ⟨s0, s1⟩
     go_simp
     with_reducible rfl
    rotate_left
    ·exact oT
    refine pure_ (i := 3) (N := some 13) (v := ?_) (a' := ?_) #[true, true, true, true, true, true, false, false, false, false, false] rfl rfl (any_of HT_.out oK) (fun _ _ _ h => h) (Or.inl ⟨by rfl, ?_⟩) ?_ ?_
    rotate_left
    ·intro w'
     go_simp
     with_reducible rfl
    rotate_left
    ·exact oT
    refine take_ (i := 6) (N := some 16) (v := ?_) (a' := ?_) #[true, true, true, true, true, true, true, false, false, false, false] rfl rfl (take_ofW HT_.out HW_.out oK) (fun _ _ _ h => h) (Or.inl ⟨by rfl, ?_⟩) hHeld ?_ ?_
    rotate_left
    ·rintro w' ⟨s0, s1⟩
     go_simp
     with_reducible rfl
    rotate_left
    ·exact oT
    refine pure_ (i := 7) (N := some 17) (v := ?_) (a' := ?_) #[true, true, true, true, true, true, true, true, false, false, false] rfl rfl (any_of HT_.out oK) (fun _ _ _ h => h) (Or.inl ⟨by rfl, ?_⟩) ?_ ?_
    rotate_left
    ·intro w'
     go_simp
     with_reducible rfl
    rotate_left
    ·exact oT
    refine pure_ (i := 8) (N := some 18) (v := ?_) (a' := ?_) #[true, true, true, true, true, true, true, true, true, false, false] rfl rfl (any_of HT_.out oK) (fun _ _ _ h => h) (Or.inl ⟨by rfl, ?_⟩) ?_ ?_
    rotate_left
    ·intro w'
     go_simp
     with_reducible rfl
    rotate_left
    ·exact oT
    refine one_ (i := 9) (N := some 4) #[true, true, true, true, true, true, true, true, true, true, false] rfl rfl (one_of HT_.out oK) oD (fun K hK => ?_)
    refine box_step ?hg (N := 4) ?hd (cs := #[.int .i64 0, .int .i64 0, .slice none 0 0]) (t := 25) ?hr ?_; (case hd => rfl); (case hg => rfl); (case hr => first | (go_simp; done) | (go_simp; rfl))
    intro aD hg bW hbox hb
    have n_ := o2_ (blk_below (oP aC) hb) (o2_ (below_step (oB HB) hb) (o2_ (hbox) (o2_ ((oG hg (below_size (oB HB)) : w.heap.size ≤ aD)) (o2_ ((oG hg (below_size (oB HB)) : w.heap.size ≤ aD)) (o2_ ((oL hg (blk_lt (oP aC)))) (o1_ ((oN hg (blk_lt (oP aC))))))))))
    clear aC HB
    obtain ⟨aC, HB, aA, aG, eS, aI, aJ⟩ := n_
    clear hb hbox hg
    refine hK.out _ _ ⟨((HB.out.cell (World.block_lt_of_cell? w _ hw1218_0)).trans hw1218_0), ((HB.out.cell (World.block_lt_of_cell? w _ hw1219_0)).trans hw1219_0)⟩ (fun hHeld => ?_)
    clear hK K
    refine norm_ (a' := ?_) ?_ ?_
    rotate_left
    ·show Act.put _ (some 4) _ = _
     exact oT
    refine one_ (i := 10) (N := none) #[true, true, true, true, true, true, true, true, true, true, true] rfl rfl (one_of HT_.out oK) oD (fun K hK => ?_)
    have hs11 : bW.cell? ⟨aD, 0, none⟩ = some (.int .i64 0) := (blk_cell aA.out 0).trans rfl
    have hfs11 := blk_frozen aA.out 0
    have hns11_0 := aI.out
    have hms11_0 := aJ.out
    have hs12 : bW.cell? ⟨aD, 1, none⟩ = some (.int .i64 0) := (blk_cell aA.out 1).trans rfl
    have hfs12 := blk_frozen aA.out 1
    have hns12_0 := aI.out
    have hms12_0 := aJ.out
    have hs13 : bW.cell? ⟨aD, 2, none⟩ = some (.slice none 0 0) := (blk_cell aA.out 2).trans rfl
    have hfs13 := blk_frozen aA.out 2
    have hns13_0 := aI.out
    have hms13_0 := aJ.out
    refine skip_ (w1 := ?_) (by rfl) rfl ?_ ?_
    rotate_left
    ·go_simp
     rfl
    refine hK.out _ _ ⟨((cell_far (p := ⟨aD, _, none⟩) (by first | exact Nat.ne_of_lt (oW hw1218_0 aG) | (rw [add_block]; exact Nat.ne_of_lt (oW hw1218_0 aG)) | (show (Addr.add _ _).block ≠ _; rw [add_block]; exact Nat.ne_of_lt (oW hw1218_0 aG)) | (dsimp only; exact Nat.ne_of_lt (oW hw1218_0 aG))) _).trans (((cell_far (p := ⟨aD, _, none⟩) (by first | exact Nat.ne_of_lt (oW hw1218_0 aG) | (rw [add_block]; exact Nat.ne_of_lt (oW hw1218_0 aG)) | (show (Addr.add _ _).block ≠ _; rw [add_block]; exact Nat.ne_of_lt (oW hw1218_0 aG)) | (dsimp only; exact Nat.ne_of_lt (oW hw1218_0 aG))) _).trans (((cell_far (p := ⟨aD, _, none⟩) (by first | exact Nat.ne_of_lt (oW hw1218_0 aG) | (rw [add_block]; exact Nat.ne_of_lt (oW hw1218_0 aG)) | (show (Addr.add _ _).block ≠ _; rw [add_block]; exact Nat.ne_of_lt (oW hw1218_0 aG)) | (dsimp only; exact Nat.ne_of_lt (oW hw1218_0 aG))) _).trans (hHeld.1)))))), ((cell_far (p := ⟨aD, _, none⟩) (by first | exact Nat.ne_of_lt (oW hw1219_0 aG) | (rw [add_block]; exact Nat.ne_of_lt (oW hw1219_0 aG)) | (show (Addr.add _ _).block ≠ _; rw [add_block]; exact Nat.ne_of_lt (oW hw1219_0 aG)) | (dsimp only; exact Nat.ne_of_lt (oW hw1219_0 aG))) _).trans (((cell_far (p := ⟨aD, _, none⟩) (by first | exact Nat.ne_of_lt (oW hw1219_0 aG) | (rw [add_block]; exact Nat.ne_of_lt (oW hw1219_0 aG)) | (show (Addr.add _ _).block ≠ _; rw [add_block]; exact Nat.ne_of_lt (oW hw1219_0 aG)) | (dsimp only; exact Nat.ne_of_lt (oW hw1219_0 aG))) _).trans (((cell_far (p := ⟨aD, _, none⟩) (by first | exact Nat.ne_of_lt (oW hw1219_0 aG) | (rw [add_block]; exact Nat.ne_of_lt (oW hw1219_0 aG)) | (show (Addr.add _ _).block ≠ _; rw [add_block]; exact Nat.ne_of_lt (oW hw1219_0 aG)) | (dsimp only; exact Nat.ne_of_lt (oW hw1219_0 aG))) _).trans (hHeld.2))))))⟩ (fun hHeld => ?_)
    clear hK K
    refine done_ (done_of HT_.out oK) ?_
    go_upto_region 4 with (fail)
    go_cut [38] (fun fT wc => ∃ (kq : Nat) (bV : Bool), fT = .bool bV ∧ Aside0 (spec_RasRead.j0 kq l0 bV (wrap64 (rd l0 0)) (wrap64 (rd l0 1)) = some (r1, r2, r3, r4)) ∧ Aside0 (kq ≤ k) ∧ Aside0 (wc.heap[aH]? = some (.cells #[.int .i64 0, .int .i64 0, (.slice none 0 0)] 25 (0, 0))) ∧ Aside0 (wc.heap[aD]? = some (.cells #[.int .i64 (wrap64 (rd l0 0)), .int .i64 (wrap64 (rd l0 1)), (.slice none 0 0)] 25 (0, 0))) ∧ Aside0 (Below w.heap.size w wc))
    case first =>
     have H := eT.out
     clear eT
     by_cases cT : (wrap64 (rd l0 0)) > 6
     ·rw [if_pos cT] at H
      have aY : decide (6 < (wrap64 (rd l0 0))) = true := decide_eq_true cT
      clear cT
      (first | rw [aY] | (simp only [i64_w, i32_w]; rw [aY]) | skip)
      have H' := Aside0.mk H
      clear H
      have fH := aJ.out
      have fM := aI.out
      have bD : bW.cell? ⟨aD, 0, none⟩ = some (.int .i64 0) := (blk_cell aA.out 0).trans rfl
      have bE : bW.cell? ⟨aD, 1, none⟩ = some (.int .i64 0) := (blk_cell aA.out 1).trans rfl
      have bF : bW.cell? ⟨aD, 2, none⟩ = some (.slice none 0 0) := (blk_cell aA.out 2).trans rfl
      have bM := blk_frozen aA.out 0
      have bN := blk_frozen aA.out 1
      have bO := blk_frozen aA.out 2
      go_wp2
      go_meet
      case rel => exact ⟨_, (true), oU, H', ⟨(by first | omega | exact Nat.le_refl _)⟩, ⟨(oP aC)⟩, ⟨(blk_put (blk_put (blk_put aA.out 0 _ rfl) 1 _ rfl) 2 _ rfl)⟩, ⟨(oB HB)⟩⟩
     ·rw [if_neg cT] at H
      have aY : decide (6 < (wrap64 (rd l0 0))) = false := decide_eq_false cT
      clear cT
      (first | rw [aY] | (simp only [i64_w, i32_w]; rw [aY]) | skip)
      by_cases cU : (wrap64 (rd l0 1)) > 6
      ·rw [if_pos cU] at H
       have bY : decide (6 < (wrap64 (rd l0 1))) = true := decide_eq_true cU
       clear cU
       have H' := Aside0.mk H
       clear H
       have fI := aJ.out
       have fN := aI.out
       have bG : bW.cell? ⟨aD, 0, none⟩ = some (.int .i64 0) := (blk_cell aA.out 0).trans rfl
       have bH : bW.cell? ⟨aD, 1, none⟩ = some (.int .i64 0) := (blk_cell aA.out 1).trans rfl
       have bI : bW.cell? ⟨aD, 2, none⟩ = some (.slice none 0 0) := (blk_cell aA.out 2).trans rfl
       have bP := blk_frozen aA.out 0
       have bQ := blk_frozen aA.out 1
       have bR := blk_frozen aA.out 2
       go_wp2
       go_meet
       case rel => exact ⟨_, (true), oU, H', ⟨(by first | omega | exact Nat.le_refl _)⟩, ⟨(oP aC)⟩, ⟨(blk_put (blk_put (blk_put aA.out 0 _ rfl) 1 _ rfl) 2 _ rfl)⟩, ⟨(oB HB)⟩⟩
      ·rw [if_neg cU] at H
       have bY : decide (6 < (wrap64 (rd l0 1))) = false := decide_eq_false cU
       clear cU
       have H' := Aside0.mk H
       clear H
       have fJ := aJ.out
       have fO := aI.out
       have bJ : bW.cell? ⟨aD, 0, none⟩ = some (.int .i64 0) := (blk_cell aA.out 0).trans rfl
       have bK : bW.cell? ⟨aD, 1, none⟩ = some (.int .i64 0) := (blk_cell aA.out 1).trans rfl
       have bL : bW.cell? ⟨aD, 2, none⟩ = some (.slice none 0 0) := (blk_cell aA.out 2).trans rfl
       have bS := blk_frozen aA.out 0
       have bT := blk_frozen aA.out 1
       have bU := blk_frozen aA.out 2
       go_wp2
       go_meet
       case rel => exact ⟨_, (((l0.length : Int) != (wrap64 (2 + (wrap64 ((wrap64 (4 * (wrap64 (rd l0 0)))) * (wrap64 (rd l0 1)))))))), oU, H', ⟨(by first | omega | exact Nat.le_refl _)⟩, ⟨(oP aC)⟩, ⟨(blk_put (blk_put (blk_put aA.out 0 _ rfl) 1 _ rfl) 2 _ rfl)⟩, ⟨(oB HB)⟩⟩
    case rest =>
     clear eT
     try clear c1
     try clear p1
     try clear q1
     try clear hx1
     try clear qi1
     try clear c2
     try clear dD
     try clear dE
     try clear p2
     try clear c3
     try clear c5
     try clear dL
     try clear dM
     try clear c6
     try clear dN
     try clear dO
     try clear p6
     try clear p12
     try clear q12
     try clear hx12
     try clear qi12
     try clear cT
     try clear aY
     try clear c15
     try clear cU
     try clear bY
     try clear c18
     try clear c20
     try clear bD
     try clear bE
     try clear bF
     try clear bG
     try clear bH
     try clear bI
     try clear bJ
     try clear bK
     try clear bL
     try clear bZ
     try clear cA
     try clear cB
     try clear bM
     try clear bN
     try clear bO
     try clear bP
     try clear bQ
     try clear bR
     try clear bS
     try clear bT
     try clear bU
     try clear cC
     try clear cD
     try clear cE
     try clear aN
     try clear aQ
     try clear aZ
     try clear bA
     try clear bB
     try clear bC
     obtain ⟨kq, bV, rfl, HA, eY, aC, aA, HB⟩ := hcut
     cases kq with
     | zero => exact nomatch (show none = some _ from HA.out)
     | succ kj6 =>
      have H := HA.out
      clear HA
      simp only [spec_RasRead.j0] at H
      by_cases dJ : bV = true
      ·subst dJ
       rw [if_pos rfl] at H
       simp only [Option.some.injEq, Prod.mk.injEq] at H
       obtain ⟨rfl, rfl, rfl, rfl⟩ := H
       have fK := aI.out
       have fP := aJ.out
       have cN : wc.cell? ⟨aH, 0, none⟩ = some (.int .i64 0) := (blk_cell aC.out 0).trans rfl
       have cO : wc.cell? ⟨aH, 1, none⟩ = some (.int .i64 0) := (blk_cell aC.out 1).trans rfl
       have cP : wc.cell? ⟨aH, 2, none⟩ = some (.slice none 0 0) := (blk_cell aC.out 2).trans rfl
       have cQ := blk_frozen aC.out 0
       have cR := blk_frozen aC.out 1
       have cS := blk_frozen aC.out 2
       go_wp2
       refine bodyPost_ret (results_ct rfl _ _ aH 25 #[.int .i64 0, .int .i64 0, .slice none 0 0] (0, 0) _ rfl (blk_put (blk_put (blk_put aC.out 0 _ rfl) 1 _ rfl) 2 _ rfl) Try.underlying25 rfl oK) rfl ?_
       exact ⟨_, by first | rfl | (simp [errW_none, errW_some] <;> rfl) | (simp [*, errW_none, errW_some] <;> rfl), by first | exact Kd.R_nil _ _ _ _ _ | exact Kd.N_nil _ _ _ _ _ | exact Kd.V_nil _ _ _ _ _ | exact Kd.Q_nil _ _ _ _ _ | exact Kd.S_nil _ _ _ _ _, oB HB⟩
      ·replace dJ := Bool.eq_false_iff.mpr dJ
       subst dJ
       rw [if_neg (show ¬ (false = true) by decide)] at H
       have H' := Aside0.mk H
       clear H
       go_wp2
       go_loopg [5] kj6 (fun kq v5 w' => ∃ (aM : Int) (aE : List (S38)) (aT : Value), v5 = .int .i64 aM ∧ Aside0 (spec_RasRead.l0 kq l0 aM (wrap64 (rd l0 0)) (wrap64 (rd l0 1)) aE = some (r1, r2, r3, r4)) ∧ Aside0 (kq ≤ kj6) ∧ Aside0 (Kd.R k38 38 w' w.heap.size (fun _ => True) aT aE) ∧ Aside0 (w'.heap[aH]? = some (.cells #[.int .i64 0, .int .i64 0, (.slice none 0 0)] 25 (0, 0))) ∧ Aside0 (w'.heap[aD]? = some (.cells #[.int .i64 (wrap64 (rd l0 0)), .int .i64 (wrap64 (rd l0 1)), aT] 25 (0, 0))) ∧ Aside0 (Below w.heap.size w w'))
       case atStart => exact ⟨(2), (([] : List (S38))), (.slice none 0 0), oU, H', ⟨Nat.le_refl _⟩, ⟨oZ⟩, ⟨(oP aC)⟩, ⟨(oP aA)⟩, ⟨(oB HB)⟩⟩
       case round =>
        clear H'
        try clear c1
        try clear p1
        try clear q1
        try clear hx1
        try clear qi1
        try clear c2
        try clear dD
        try clear dE
        try clear p2
        try clear c3
        try clear c5
        try clear dL
        try clear dM
        try clear c6
        try clear dN
        try clear dO
        try clear p6
        try clear p12
        try clear q12
        try clear hx12
        try clear qi12
        try clear cT
        try clear aY
        try clear c15
        try clear cU
        try clear bY
        try clear c18
        try clear c20
        try clear dJ
        try clear c23
        try clear bD
        try clear bE
        try clear bF
        try clear bG
        try clear bH
        try clear bI
        try clear bJ
        try clear bK
        try clear bL
        try clear cN
        try clear cO
        try clear cP
        try clear bZ
        try clear cA
        try clear cB
        try clear bM
        try clear bN
        try clear bO
        try clear bP
        try clear bQ
        try clear bR
        try clear bS
        try clear bT
        try clear bU
        try clear cQ
        try clear cR
        try clear cS
        try clear cC
        try clear cD
        try clear cE
        try clear aN
        try clear aQ
        try clear p1
        try clear p12
        try clear aZ
        try clear bA
        try clear p2
        try clear p6
        try clear q1
        try clear q12
        try clear bB
        try clear bC
        obtain ⟨aM, aE, aT, rfl, HA, HK2, aK, aC, aA, HB⟩ := hrel
        cases gk with
        | zero => exact nomatch (show none = some _ from HA.out)
        | succ k2 =>
         have H := HA.out
         clear HA
         simp only [spec_RasRead.l0] at H
         by_cases dG : aM < (l0.length : Int)
         ·rw [if_pos dG] at H
          have dK : decide (aM < (l0.length : Int)) = true := decide_eq_true dG
          clear dG
          by_cases dY : 0 ≤ aM
          ·rw [if_pos dY] at H
           have eZ : decide (0 ≤ aM) = true := decide_eq_true dY
           clear dY
           obtain ⟨ji27, hji27⟩ : ∃ j_ : Int, (wrap64 (aM + 1)) = j_ := ⟨_, rfl⟩
           replace H : (if 0 ≤ (ji27) then (if (ji27) < (l0.length : Int) then (if 0 ≤ (wrap64 (aM + 2)) then (if (wrap64 (aM + 2)) < (l0.length : Int) then (if 0 ≤ (wrap64 (aM + 3)) then (if (wrap64 (aM + 3)) < (l0.length : Int) then (if aE.length < 4398046511104 then (spec_RasRead.l0 k2 l0 (wrap64 (aM + 4)) (wrap64 (rd l0 0)) (wrap64 (rd l0 1)) (aE ++ [(⟨wrap64 (rd l0 aM), wrap64 (rd l0 (ji27)), wrap64 (rd l0 (wrap64 (aM + 2))), wrap64 (rd l0 (wrap64 (aM + 3)))⟩ : S38)])) else (none)) else (none)) else (none)) else (none)) else (none)) else (none)) else (none)) = some (r1, r2, r3, r4) := by first | (rw [hji27] at H; exact H) | (simp only [hji27] at H ⊢; exact H)
           have eV : (IntKind.i64.wrap (aM + 1)) = ji27 := (i64_w _).trans hji27
           by_cases dZ : 0 ≤ (ji27)
           ·rw [if_pos dZ] at H
            have fA : decide (0 ≤ (ji27)) = true := decide_eq_true dZ
            clear dZ
            by_cases eA : (ji27) < (l0.length : Int)
            ·rw [if_pos eA] at H
             have fB : decide ((ji27) < (l0.length : Int)) = true := decide_eq_true eA
             clear eA
             obtain ⟨ji30, hji30⟩ : ∃ j_ : Int, (wrap64 (aM + 2)) = j_ := ⟨_, rfl⟩
             replace H : (if 0 ≤ (ji30) then (if (ji30) < (l0.length : Int) then (if 0 ≤ (wrap64 (aM + 3)) then (if (wrap64 (aM + 3)) < (l0.length : Int) then (if aE.length < 4398046511104 then (spec_RasRead.l0 k2 l0 (wrap64 (aM + 4)) (wrap64 (rd l0 0)) (wrap64 (rd l0 1)) (aE ++ [(⟨wrap64 (rd l0 aM), wrap64 (rd l0 (ji27)), wrap64 (rd l0 (ji30)), wrap64 (rd l0 (wrap64 (aM + 3)))⟩ : S38)])) else (none)) else (none)) else (none)) else (none)) else (none)) = some (r1, r2, r3, r4) := by first | (rw [hji30] at H; exact H) | (simp only [hji30] at H ⊢; exact H)
             have eW : (IntKind.i64.wrap (aM + 2)) = ji30 := (i64_w _).trans hji30
             by_cases eB : 0 ≤ (ji30)
             ·rw [if_pos eB] at H
              have fC : decide (0 ≤ (ji30)) = true := decide_eq_true eB
              clear eB
              by_cases eC : (ji30) < (l0.length : Int)
              ·rw [if_pos eC] at H
               have fD : decide ((ji30) < (l0.length : Int)) = true := decide_eq_true eC
               clear eC
               obtain ⟨ji33, hji33⟩ : ∃ j_ : Int, (wrap64 (aM + 3)) = j_ := ⟨_, rfl⟩
               replace H : (if 0 ≤ (ji33) then (if (ji33) < (l0.length : Int) then (if aE.length < 4398046511104 then (spec_RasRead.l0 k2 l0 (wrap64 (aM + 4)) (wrap64 (rd l0 0)) (wrap64 (rd l0 1)) (aE ++ [(⟨wrap64 (rd l0 aM), wrap64 (rd l0 (ji27)), wrap64 (rd l0 (ji30)), wrap64 (rd l0 (ji33))⟩ : S38)])) else (none)) else (none)) else (none)) = some (r1, r2, r3, r4) := by first | (rw [hji33] at H; exact H) | (simp only [hji33] at H ⊢; exact H)
               have eX : (IntKind.i64.wrap (aM + 3)) = ji33 := (i64_w _).trans hji33
               by_cases eD : 0 ≤ (ji33)
               ·rw [if_pos eD] at H
                have fE : decide (0 ≤ (ji33)) = true := decide_eq_true eD
                clear eD
                by_cases eE : (ji33) < (l0.length : Int)
                ·rw [if_pos eE] at H
                 have fF : decide ((ji33) < (l0.length : Int)) = true := decide_eq_true eE
                 clear eE
                 by_cases eF : aE.length < 4398046511104
                 ·rw [if_pos eF] at H
                  have LMc36 := Aside0.mk eF
                  clear eF
                  obtain ⟨y1225, hy1225⟩ : ∃ y_ : List (S38), y_ = (aE ++ [(⟨wrap64 (rd l0 aM), wrap64 (rd l0 (ji27)), wrap64 (rd l0 (ji30)), wrap64 (rd l0 (ji33))⟩ : S38)]) := ⟨_, rfl⟩
                  replace H : (spec_RasRead.l0 k2 l0 (wrap64 (aM + 4)) (wrap64 (rd l0 0)) (wrap64 (rd l0 1)) y1225) = some (r1, r2, r3, r4) := by first | (rw [hy1225]; with_reducible exact H) | (have H2_ := (Option.bind_some _ _).symm.trans H; rw [hy1225]; with_reducible exact H2_) | (have H2_ := (Option.bind_some _ _).symm.trans H; with_reducible exact H2_) | with_reducible exact H | (rw [hy1225]; exact H) | exact H
                  have cX := Aside0.mk hy1225
                  clear hy1225
                  have H' := Aside0.mk H
                  clear H
                  try go_wp2
                  have n_ := o2_ (Kd.R_drew aK.out) (o2_ (blk_drew aC.out) (o2_ (blk_drew aA.out) (o1_ (below_drew1 HB.out))))
                  clear aK aC aA HB
                  obtain ⟨aK, aC, aA, HB⟩ := n_
                  have cF : 0 ≤ (aM : Int) := of_decide_eq_true oM
                  have cJ : aM < (l0.length : Int) := of_decide_eq_true oM
                  obtain ⟨cZ, dT, aU⟩ := Kd.at_int dF.out aM cF cJ
                  have hw1221_0 := aU
                  obtain rfl : aR = cZ := (by injection dT)
                  replace aU := (HB.out.cell (World.block_lt_of_cell? w _ aU)).trans aU
                  replace cF := eq_true cF
                  replace cJ := eq_true cJ
                  have cG : 0 ≤ ((ji27) : Int) := of_decide_eq_true oM
                  have cK : (ji27) < (l0.length : Int) := of_decide_eq_true oM
                  obtain ⟨dA, dU, aV⟩ := Kd.at_int dF.out (ji27) cG cK
                  have hw1222_0 := aV
                  obtain rfl : aR = dA := (by injection dU)
                  replace aV := (HB.out.cell (World.block_lt_of_cell? w _ aV)).trans aV
                  replace cG := eq_true cG
                  replace cK := eq_true cK
                  have cH : 0 ≤ ((ji30) : Int) := of_decide_eq_true oM
                  have cL : (ji30) < (l0.length : Int) := of_decide_eq_true oM
                  obtain ⟨dB, dV, aW⟩ := Kd.at_int dF.out (ji30) cH cL
                  have hw1223_0 := aW
                  obtain rfl : aR = dB := (by injection dV)
                  replace aW := (HB.out.cell (World.block_lt_of_cell? w _ aW)).trans aW
                  replace cH := eq_true cH
                  replace cL := eq_true cL
                  have cI : 0 ≤ ((ji33) : Int) := of_decide_eq_true oM
                  have cM : (ji33) < (l0.length : Int) := of_decide_eq_true oM
                  obtain ⟨dC, dW, aX⟩ := Kd.at_int dF.out (ji33) cI cM
                  have hw1224_0 := aX
                  obtain rfl : aR = dC := (by injection dW)
                  replace aX := (HB.out.cell (World.block_lt_of_cell? w _ aX)).trans aX
                  replace cI := eq_true cI
                  replace cM := eq_true cM
                  refine start_ (n := 30) (S := fun w' => w'.cell? ⟨aD, 0, none⟩ = some (.int .i64 (wrap64 (rd l0 0))) ∧ w'.cell? ⟨aD, 1, none⟩ = some (.int .i64 (wrap64 (rd l0 1))) ∧ w'.cell? ⟨aD, 2, none⟩ = some (aT) ∧ w'.cell? (aR.add (aM).toNat) = some (.int .u8 (rd l0 aM)) ∧ w'.cell? (aR.add ((ji27)).toNat) = some (.int .u8 (rd l0 (ji27))) ∧ w'.cell? (aR.add ((ji30)).toNat) = some (.int .u8 (rd l0 (ji30))) ∧ w'.cell? (aR.add ((ji33)).toNat) = some (.int .u8 (rd l0 (ji33)))) (ds := [29]) #[false, false, false, false, false, false, false, false, false, false, false, false, false, false, false, false, false, false, false, false, false, false, false, false, false, false, false, false, false, false] oK rfl rfl ⟨(blk_cell aA.out 0).trans rfl, (blk_cell aA.out 1).trans rfl, (blk_cell aA.out 2).trans rfl, ((HB.out.cell (World.block_lt_of_cell? w _ hw1221_0)).trans hw1221_0), ((HB.out.cell (World.block_lt_of_cell? w _ hw1222_0)).trans hw1222_0), ((HB.out.cell (World.block_lt_of_cell? w _ hw1223_0)).trans hw1223_0), ((HB.out.cell (World.block_lt_of_cell? w _ hw1224_0)).trans hw1224_0)⟩ (fun hHeld => ?_); refine with_tabW spec_RasRead.tab9 spec_RasRead.bits9 (fun HT_ HW_ => ?_)
                  generalize wr.drew = fW at aK aC aA HB aU aV aW aX hHeld ⊢
                  refine pure_ (i := 0) (N := some 46) (v := ?_) (a' := ?_) #[true, false, false, false, false, false, false, false, false, false, false, false, false, false, false, false, false, false, false, false, false, false, false, false, false, false, false, false, false, false] rfl rfl (any_of HT_.out oK) (fun _ _ _ h => h) (Or.inl ⟨by rfl, ?_⟩) ?_ ?_
                  rotate_left
                  ·intro w'
                   go_simp
                   with_reducible rfl
                  rotate_left
                  ·exact oT
                  refine pure_ (i := 2) (N := some 48) (v := ?_) (a' := ?_) #[true, false, true, false, false, false, false, false, false, false, false, false, false, false, false, false, false, false, false, false, false, false, false, false, false, false, false, false, false, false] rfl rfl (any_of HT_.out oK) (fun _ _ _ h => h) (Or.inl ⟨by rfl, ?_⟩) ?_ ?_
                  rotate_left
                  ·intro w'
                   go_simp
                   with_reducible rfl
                  rotate_left
                  ·exact oT
                  refine pure_ (i := 3) (N := some 49) (v := ?_) (a' := ?_) #[true, false, true, true, false, false, false, false, false, false, false, false, false, false, false, false, false, false, false, false, false, false, false, false, false, false, false, false, false, false] rfl rfl (any_of HT_.out oK) (fun _ _ _ h => h) (Or.inl ⟨by rfl, ?_⟩) ?_ ?_
                  rotate_left
                  ·intro w'
                   go_simp
                   with_reducible rfl
                  rotate_left
                  ·exact oT
                  refine pure_ (i := 4) (N := some 50) (v := ?_) (a' := ?_) #[true, false, true, true, true, false, false, false, false, false, false, false, false, false, false, false, false, false, false, false, false, false, false, false, false, false, false, false, false, false] rfl rfl (any_of HT_.out oK) (fun _ _ _ h => h) (Or.inl ⟨by rfl, ?_⟩) ?_ ?_
                  rotate_left
                  ·intro w'
                   go_simp
                   with_reducible rfl
                  rotate_left
                  ·exact oT
                  refine pure_ (i := 7) (N := some 53) (v := ?_) (a' := ?_) #[true, false, true, true, true, false, false, true, false, false, false, false, false, false, false, false, false, false, false, false, false, false, false, false, false, false, false, false, false, false] rfl rfl (any_of HT_.out oK) (fun _ _ _ h => h) (Or.inl ⟨by rfl, ?_⟩) ?_ ?_
                  rotate_left
                  ·intro w'
                   go_simp
                   with_reducible rfl
                  rotate_left
                  ·exact oT
                  refine pure_ (i := 8) (N := some 54) (v := ?_) (a' := ?_) #[true, false, true, true, true, false, false, true, true, false, false, false, false, false, false, false, false, false, false, false, false, false, false, false, false, false, false, false, false, false] rfl rfl (any_of HT_.out oK) (fun _ _ _ h => h) (Or.inl ⟨by rfl, ?_⟩) ?_ ?_
                  rotate_left
                  ·intro w'
                   go_simp
                   with_reducible rfl
                  rotate_left
                  ·exact oT
                  refine pure_ (i := 9) (N := some 55) (v := ?_) (a' := ?_) #[true, false, true, true, true, false, false, true, true, true, false, false, false, false, false, false, false, false, false, false, false, false, false, false, false, false, false, false, false, false] rfl rfl (any_of HT_.out oK) (fun _ _ _ h => h) (Or.inl ⟨by rfl, ?_⟩) ?_ ?_
                  rotate_left
                  ·intro w'
                   go_simp
                   with_reducible rfl
                  rotate_left
                  ·exact oT
                  refine pure_ (i := 10) (N := some 56) (v := ?_) (a' := ?_) #[true, false, true, true, true, false, false, true, true, true, true, false, false, false, false, false, false, false, false, false, false, false, false, false, false, false, false, false, false, false] rfl rfl (any_of HT_.out oK) (fun _ _ _ h => h) (Or.inl ⟨by rfl, ?_⟩) ?_ ?_
                  rotate_left
                  ·intro w'
                   go_simp
                   with_reducible rfl
                  rotate_left
                  ·exact oT
                  refine pure_ (i := 13) (N := some 59) (v := ?_) (a' := ?_) #[true, false, true, true, true, false, false, true, true, true, true, false, false, true, false, false, false, false, false, false, false, false, false, false, false, false, false, false, false, false] rfl rfl (any_of HT_.out oK) (fun _ _ _ h => h) (Or.inl ⟨by rfl, ?_⟩) ?_ ?_
                  rotate_left
                  ·intro w'
                   go_simp
                   with_reducible rfl
                  rotate_left
                  ·exact oT
                  refine pure_ (i := 14) (N := some 60) (v := ?_) (a' := ?_) #[true, false, true, true, true, false, false, true, true, true, true, false, false, true, true, false, false, false, false, false, false, false, false, false, false, false, false, false, false, false] rfl rfl (any_of HT_.out oK) (fun _ _ _ h => h) (Or.inl ⟨by rfl, ?_⟩) ?_ ?_
                  rotate_left
                  ·intro w'
                   go_simp
                   with_reducible rfl
                  rotate_left
                  ·exact oT
                  refine pure_ (i := 15) (N := some 61) (v := ?_) (a' := ?_) #[true, false, true, true, true, false, false, true, true, true, true, false, false, true, true, true, false, false, false, false, false, false, false, false, false, false, false, false, false, false] rfl rfl (any_of HT_.out oK) (fun _ _ _ h => h) (Or.inl ⟨by rfl, ?_⟩) ?_ ?_
                  rotate_left
                  ·intro w'
                   go_simp
                   with_reducible rfl
                  rotate_left
                  ·exact oT
                  refine pure_ (i := 16) (N := some 62) (v := ?_) (a' := ?_) #[true, false, true, true, true, false, false, true, true, true, true, false, false, true, true, true, true, false, false, false, false, false, false, false, false, false, false, false, false, false] rfl rfl (any_of HT_.out oK) (fun _ _ _ h => h) (Or.inl ⟨by rfl, ?_⟩) ?_ ?_
                  rotate_left
                  ·intro w'
                   go_simp
                   with_reducible rfl
                  rotate_left
                  ·exact oT
                  refine pure_ (i := 19) (N := some 65) (v := ?_) (a' := ?_) #[true, false, true, true, true, false, false, true, true, true, true, false, false, true, true, true, true, false, false, true, false, false, false, false, false, false, false, false, false, false] rfl rfl (any_of HT_.out oK) (fun _ _ _ h => h) (Or.inl ⟨by rfl, ?_⟩) ?_ ?_
                  rotate_left
                  ·intro w'
                   go_simp
                   with_reducible rfl
                  rotate_left
                  ·exact oT
                  refine pure_ (i := 20) (N := some 66) (v := ?_) (a' := ?_) #[true, false, true, true, true, false, false, true, true, true, true, false, false, true, true, true, true, false, false, true, true, false, false, false, false, false, false, false, false, false] rfl rfl (any_of HT_.out oK) (fun _ _ _ h => h) (Or.inl ⟨by rfl, ?_⟩) ?_ ?_
                  rotate_left
                  ·intro w'
                   go_simp
                   with_reducible rfl
                  rotate_left
                  ·exact oT
                  refine pure_ (i := 21) (N := some 67) (v := ?_) (a' := ?_) #[true, false, true, true, true, false, false, true, true, true, true, false, false, true, true, true, true, false, false, true, true, true, false, false, false, false, false, false, false, false] rfl rfl (any_of HT_.out oK) (fun _ _ _ h => h) (Or.inl ⟨by rfl, ?_⟩) ?_ ?_
                  rotate_left
                  ·intro w'
                   go_simp
                   with_reducible rfl
                  rotate_left
                  ·exact oT
                  refine pure_ (i := 22) (N := some 68) (v := ?_) (a' := ?_) #[true, false, true, true, true, false, false, true, true, true, true, false, false, true, true, true, true, false, false, true, true, true, true, false, false, false, false, false, false, false] rfl rfl (any_of HT_.out oK) (fun _ _ _ h => h) (Or.inl ⟨by rfl, ?_⟩) ?_ ?_
                  rotate_left
                  ·intro w'
                   go_simp
                   with_reducible rfl
                  rotate_left
                  ·exact oT
                  refine take_ (i := 1) (N := some 47) (v := ?_) (a' := ?_) #[true, true, true, true, true, false, false, true, true, true, true, false, false, true, true, true, true, false, false, true, true, true, true, false, false, false, false, false, false, false] rfl rfl (take_ofW HT_.out HW_.out oK) (fun _ _ _ h => h) (Or.inl ⟨by rfl, ?_⟩) hHeld ?_ ?_
                  rotate_left
                  ·rintro w' ⟨s0, s1, s2, s3, s4, s5, s6⟩
                   go_simp
                   with_reducible rfl
                  rotate_left
                  ·exact oT
                  refine take_ (i := 5) (N := some 51) (v := ?_) (a' := ?_) #[true, true, true, true, true, true, false, true, true, true, true, false, false, true, true, true, true, false, false, true, true, true, true, false, false, false, false, false, false, false] rfl rfl (take_ofW HT_.out HW_.out oK) (fun _ _ _ h => h) (Or.inl ⟨by rfl, ?_⟩) hHeld ?_ ?_
                  rotate_left
                  ·rintro w' ⟨s0, s1, s2, s3, s4, s5, s6⟩
                   go_simp
                   with_reducible rfl
                  rotate_left
                  ·exact oT
                  refine pure_ (i := 6) (N := some 52) (v := ?_) (a' := ?_) #[true, true, true, true, true, true, true, true, true, true, true, false, false, true, true, true, true, false, false, true, true, true, true, false, false, false, false, false, false, false] rfl rfl (any_of HT_.out oK) (fun _ _ _ h => h) (Or.inl ⟨by rfl, ?_⟩) ?_ ?_
                  rotate_left
                  ·intro w'
                   go_simp
                   with_reducible rfl
                  rotate_left
                  ·exact oT
                  refine take_ (i := 11) (N := some 57) (v := ?_) (a' := ?_) #[true, true, true, true, true, true, true, true, true, true, true, true, false, true, true, true, true, false, false, true, true, true, true, false, false, false, false, false, false, false] rfl rfl (take_ofW HT_.out HW_.out oK) (fun _ _ _ h => h) (Or.inl ⟨by rfl, ?_⟩) hHeld ?_ ?_
                  rotate_left
                  ·rintro w' ⟨s0, s1, s2, s3, s4, s5, s6⟩
                   go_simp
                   with_reducible rfl
                  rotate_left
                  ·exact oT
                  refine pure_ (i := 12) (N := some 58) (v := ?_) (a' := ?_) #[true, true, true, true, true, true, true, true, true, true, true, true, true, true, true, true, true, false, false, true, true, true, true, false, false, false, false, false, false, false] rfl rfl (any_of HT_.out oK) (fun _ _ _ h => h) (Or.inl ⟨by rfl, ?_⟩) ?_ ?_
                  rotate_left
                  ·intro w'
                   go_simp
                   with_reducible rfl
                  rotate_left
                  ·exact oT
                  refine take_ (i := 17) (N := some 63) (v := ?_) (a' := ?_) #[true, true, true, true, true, true, true, true, true, true, true, true, true, true, true, true, true, true, false, true, true, true, true, false, false, false, false, false, false, false] rfl rfl (take_ofW HT_.out HW_.out oK) (fun _ _ _ h => h) (Or.inl ⟨by rfl, ?_⟩) hHeld ?_ ?_
                  rotate_left
                  ·rintro w' ⟨s0, s1, s2, s3, s4, s5, s6⟩
                   go_simp
                   with_reducible rfl
                  rotate_left
                  ·exact oT
                  refine pure_ (i := 18) (N := some 64) (v := ?_) (a' := ?_) #[true, true, true, true, true, true, true, true, true, true, true, true, true, true, true, true, true, true, true, true, true, true, true, false, false, false, false, false, false, false] rfl rfl (any_of HT_.out oK) (fun _ _ _ h => h) (Or.inl ⟨by rfl, ?_⟩) ?_ ?_
                  rotate_left
                  ·intro w'
                   go_simp
                   with_reducible rfl
                  rotate_left
                  ·exact oT
                  refine take_ (i := 23) (N := some 69) (v := ?_) (a' := ?_) #[true, true, true, true, true, true, true, true, true, true, true, true, true, true, true, true, true, true, true, true, true, true, true, true, false, false, false, false, false, false] rfl rfl (take_ofW HT_.out HW_.out oK) (fun _ _ _ h => h) (Or.inl ⟨by rfl, ?_⟩) hHeld ?_ ?_
                  rotate_left
                  ·rintro w' ⟨s0, s1, s2, s3, s4, s5, s6⟩
                   go_simp
                   with_reducible rfl
                  rotate_left
                  ·exact oT
                  refine pure_ (i := 24) (N := some 70) (v := ?_) (a' := ?_) #[true, true, true, true, true, true, true, true, true, true, true, true, true, true, true, true, true, true, true, true, true, true, true, true, true, false, false, false, false, false] rfl rfl (any_of HT_.out oK) (fun _ _ _ h => h) (Or.inl ⟨by rfl, ?_⟩) ?_ ?_
                  rotate_left
                  ·intro w'
                   go_simp
                   with_reducible rfl
                  rotate_left
                  ·exact oT
                  refine pure_ (i := 25) (N := some 71) (v := ?_) (a' := ?_) #[true, true, true, true, true, true, true, true, true, true, true, true, true, true, true, true, true, true, true, true, true, true, true, true, true, true, false, false, false, false] rfl rfl (any_of HT_.out oK) (fun _ _ _ h => h) (Or.inl ⟨by rfl, ?_⟩) ?_ ?_
                  rotate_left
                  ·intro w'
                   go_simp
                   with_reducible rfl
                  rotate_left
                  ·exact oT
                  refine one_ (i := 26) (N := some 72) #[true, true, true, true, true, true, true, true, true, true, true, true, true, true, true, true, true, true, true, true, true, true, true, true, true, true, true, false, false, false] rfl rfl (one_of HT_.out oK) oD (fun K hK => ?_)
                  refine value_ (w1 := ?_) (v := ?_) (by rfl) rfl ?_ ?_
                  rotate_left 2
                  ·go_simp
                   constructor
                   ·rfl
                   ·rfl
                  refine hK.out _ _ ⟨(blk_cell (blk_alloc aA.out _) 0).trans rfl, (blk_cell (blk_alloc aA.out _) 1).trans rfl, (blk_cell (blk_alloc aA.out _) 2).trans rfl, (World.cell?_alloc_lt _ _ _ (World.block_lt_of_cell? _ _ (((HB.out.cell (World.block_lt_of_cell? w _ hw1221_0)).trans hw1221_0)))).trans (((HB.out.cell (World.block_lt_of_cell? w _ hw1221_0)).trans hw1221_0)), (World.cell?_alloc_lt _ _ _ (World.block_lt_of_cell? _ _ (((HB.out.cell (World.block_lt_of_cell? w _ hw1222_0)).trans hw1222_0)))).trans (((HB.out.cell (World.block_lt_of_cell? w _ hw1222_0)).trans hw1222_0)), (World.cell?_alloc_lt _ _ _ (World.block_lt_of_cell? _ _ (((HB.out.cell (World.block_lt_of_cell? w _ hw1223_0)).trans hw1223_0)))).trans (((HB.out.cell (World.block_lt_of_cell? w _ hw1223_0)).trans hw1223_0)), (World.cell?_alloc_lt _ _ _ (World.block_lt_of_cell? _ _ (((HB.out.cell (World.block_lt_of_cell? w _ hw1224_0)).trans hw1224_0)))).trans (((HB.out.cell (World.block_lt_of_cell? w _ hw1224_0)).trans hw1224_0))⟩ (fun hHeld => ?_)
                  clear hK K
                  refine norm_ (a' := ?_) ?_ ?_
                  rotate_left
                  ·show Act.put _ (some 72) _ = _
                   exact oT
                  refine one_ (i := 27) (N := some 73) #[true, true, true, true, true, true, true, true, true, true, true, true, true, true, true, true, true, true, true, true, true, true, true, true, true, true, true, true, false, false] rfl rfl (one_of HT_.out oK) oD (fun K hK => ?_)
                  refine Kd.R_append_step k38 (w0 := w) w.heap.size (by rfl) (.tmp 47) (.tmp 72) 23 38 (.agg #[(.int .i64 0), (.int .i64 0), (.int .i64 0), (.int .i64 0)]) 32 rfl Try.underlying23 info38 rfl oD (by omega) aT aE (⟨wrap64 (rd l0 aM), wrap64 (rd l0 (ji27)), wrap64 (rd l0 (ji30)), wrap64 (rd l0 (ji33))⟩ : S38) [.int .i64 (wrap64 (rd l0 aM)), .int .i64 (wrap64 (rd l0 (ji27))), .int .i64 (wrap64 (rd l0 (ji30))), .int .i64 (wrap64 (rd l0 (ji33)))] (fun _ => True) (fun _ => False) rfl rfl ?aP (fun _ hk => hk.elim) ?aF ?aO ?aB ?aS ?aL ?_
                  (case aP => exact k38_mkM _ _ _ (⟨wrap64 (rd l0 aM), wrap64 (rd l0 (ji27)), wrap64 (rd l0 (ji30)), wrap64 (rd l0 (ji33))⟩ : S38))
                  (case aB => exact (oB HB))
                  (case aF => exact (fun _ _ => trivial))
                  (case aO => exact (oR aK))
                  (case aS => exact (below_size (oB HB)))
                  (case aL => have := LMc36.out; omega)
                  intro fR fU ho hb hg hat
                  rw [← cX.out] at ho
                  have n_ := o2_ (blk_grown (oP aC) hg (Kd.R_ne aK.out aC.out oD)) (o2_ (blk_grown (oP aA) hg (Kd.R_ne aK.out aA.out oD)) (o2_ (hb) (o1_ (ho))))
                  clear aC aA HB aK
                  obtain ⟨aC, aA, HB, bX⟩ := n_
                  clear ho hb hg hat
                  obtain ⟨dH, dP, dX⟩ := Kd.R_slice bX.out
                  (first | subst dX | (injection dX with f1_ f2_ f3_; have f4_ := f1_.symm; have f5_ := f3_.symm; clear f1_ f2_ f3_; subst f4_; subst f5_))
                  refine hK.out _ _ ⟨(blk_cell aA.out 0).trans rfl, (blk_cell aA.out 1).trans rfl, (blk_cell aA.out 2).trans rfl, ((HB.out.cell (World.block_lt_of_cell? w _ hw1221_0)).trans hw1221_0), ((HB.out.cell (World.block_lt_of_cell? w _ hw1222_0)).trans hw1222_0), ((HB.out.cell (World.block_lt_of_cell? w _ hw1223_0)).trans hw1223_0), ((HB.out.cell (World.block_lt_of_cell? w _ hw1224_0)).trans hw1224_0)⟩ (fun hHeld => ?_)
                  clear hK K
                  refine norm_ (a' := ?_) ?_ ?_
                  rotate_left
                  ·show Act.put _ (some 73) _ = _
                   exact oT
                  refine pure_ (i := 28) (N := some 74) (v := ?_) (a' := ?_) #[true, true, true, true, true, true, true, true, true, true, true, true, true, true, true, true, true, true, true, true, true, true, true, true, true, true, true, true, true, false] rfl rfl (any_of HT_.out oK) (fun _ _ _ h => h) (Or.inl ⟨by rfl, ?_⟩) ?_ ?_
                  rotate_left
                  ·intro w'
                   go_simp
                   with_reducible rfl
                  rotate_left
                  ·exact oT
                  refine last_ (i := 29) (N := none) #[true, true, true, true, true, true, true, true, true, true, true, true, true, true, true, true, true, true, true, true, true, true, true, true, true, true, true, true, true, true] rfl rfl (one_of HT_.out oK) oD (fun K hK => ?_)
                  have hs40 : fU.cell? ⟨aD, 2, none⟩ = some (aT) := (blk_cell aA.out 2).trans rfl
                  have hfs40 := blk_frozen aA.out 2
                  have hns40_0 := aI.out
                  have hms40_0 := aJ.out
                  refine skip_ (w1 := ?_) (by rfl) rfl ?_ ?_
                  rotate_left
                  ·go_simp
                   rfl
                  refine hK.out _ _ ?_
                  clear hK K
                  refine done_ (done_of HT_.out oK) ?_
                  try go_wp2
                  go_roundg k2
                  case measure => have := eY.out; have := HK2.out; omega
                  case rel => exact ⟨(wrap64 (aM + 4)), (y1225), (.slice dH y1225.length dP), oU, H', ⟨(by have := eY.out; have := HK2.out; omega)⟩, ⟨(by (with_reducible repeat (first | apply Kd.R_alloc | apply Kd.R_drewN | apply Kd.R_drew)); exact Kd.R_mono (Kd.R_far (p := ⟨aD, 2, none⟩) (Kd.R_types bX.out aA.out oD) (fun _ hk => hk.2) (.slice dH y1225.length dP)) (fun _ hk => trivial))⟩, ⟨(oP aC)⟩, ⟨(blk_put aA.out 2 _ rfl)⟩, ⟨(oB HB)⟩⟩
                 ·rw [if_neg eF] at H
                  exact absurd H (by simp)
                ·rw [if_neg eE] at H
                 exact absurd H (by simp)
               ·rw [if_neg eD] at H
                exact absurd H (by simp)
              ·rw [if_neg eC] at H
               exact absurd H (by simp)
             ·rw [if_neg eB] at H
              exact absurd H (by simp)
            ·rw [if_neg eA] at H
             exact absurd H (by simp)
           ·rw [if_neg dZ] at H
            exact absurd H (by simp)
          ·rw [if_neg dY] at H
           exact absurd H (by simp)
         ·rw [if_neg dG] at H
          have dK : decide (aM < (l0.length : Int)) = false := decide_eq_false dG
          clear dG
          simp only [Option.some.injEq, Prod.mk.injEq] at H
          obtain ⟨rfl, rfl, rfl, rfl⟩ := H
          have fL := aJ.out
          have fQ := aI.out
          have eG : wr.cell? ⟨aD, 0, none⟩ = some (.int .i64 (wrap64 (rd l0 0))) := (blk_cell aA.out 0).trans rfl
          have eH : wr.cell? ⟨aD, 1, none⟩ = some (.int .i64 (wrap64 (rd l0 1))) := (blk_cell aA.out 1).trans rfl
          have eI : wr.cell? ⟨aD, 2, none⟩ = some (aT) := (blk_cell aA.out 2).trans rfl
          have eM := blk_frozen aA.out 0
          have eN := blk_frozen aA.out 1
          have eO := blk_frozen aA.out 2
          have eJ : wr.cell? ⟨aH, 0, none⟩ = some (.int .i64 0) := (blk_cell aC.out 0).trans rfl
          have eK : wr.cell? ⟨aH, 1, none⟩ = some (.int .i64 0) := (blk_cell aC.out 1).trans rfl
          have eL : wr.cell? ⟨aH, 2, none⟩ = some (.slice none 0 0) := (blk_cell aC.out 2).trans rfl
          have eP := blk_frozen aC.out 0
          have eQ := blk_frozen aC.out 1
          have eR := blk_frozen aC.out 2
          obtain ⟨dI, dQ, eU⟩ := Kd.R_slice aK.out
          subst eU
          go_wp2
          refine bodyPost_ret (results_ct rfl _ _ aH 25 #[.int .i64 (wrap64 (rd l0 0)), .int .i64 (wrap64 (rd l0 1)), .slice dI aE.length dQ] (0, 0) _ rfl (blk_put (blk_put (blk_put aC.out 0 _ rfl) 1 _ rfl) 2 _ rfl) Try.underlying25 rfl oK) rfl ?_
          exact ⟨_, by first | rfl | (simp [errW_none, errW_some] <;> rfl) | (simp [*, errW_none, errW_some] <;> rfl), by (with_reducible repeat (first | apply Kd.R_alloc | apply Kd.R_drewN | apply Kd.R_drew)); exact Kd.R_mono (Kd.R_far (p := ⟨aH, 2, none⟩) (Kd.R_far (p := ⟨aH, 1, none⟩) (Kd.R_far (p := ⟨aH, 0, none⟩) (Kd.R_types aK.out aC.out oD) (fun _ hk => hk.2) (.int .i64 (wrap64 (rd l0 0)))) (fun _ hk => hk.2) (.int .i64 (wrap64 (rd l0 1)))) (fun _ hk => hk.2) (.slice dI aE.length dQ)) (fun _ hk => trivial), oB HB⟩
   ·rw [if_neg c6] at H
    exact absurd H (by simp)
  ·rw [if_neg c5] at H
   exact absurd H (by simp)

end Go.Proofs.Ythnmeogafklhnaa.X
