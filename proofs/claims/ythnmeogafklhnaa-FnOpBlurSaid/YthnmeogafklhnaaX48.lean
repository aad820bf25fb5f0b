/- What functions of the program come to, each with its proof. No condition but what each theorem states. -/
import Derived.Test.YthnmeogafklhnaaX0
import Derived.Test.YthnmeogafklhnaaX28
namespace Go.Proofs.Ythnmeogafklhnaa.X
open Go.RowKit Go.Proofs.YthnmeogafklhnaaW.PrintWords Go.Proofs.YthnmeogafklhnaaW.PrintLast Go.Proofs.YthnmeogafklhnaaW.PrintMore Go.Proofs.Ythnmeogafklhnaa.Hyb
attribute [local go_sem] max2_int min2_int max_two min_two max_three min_three max_four min_four
set_option linter.unusedVariables false
set_option linter.unusedSimpArgs false

/-! ### laws_eaDo: function 27 -/
def laws_eaDo.l0 : Nat → List (S27) → Int → Int → Int → List (S38) → Option (Int × Int × (List (S38)))
 | 0, _, _, _, _, _ => none
 | k + 1, x1, x5, x511000, x511001, x511002 => if x5 < (x1.length : Int) then (if 0 ≤ x5 then ((impl_OpDo.f k x511000 x511001 x511002 ((rd_T27 x1 x5).f0) ((rd_T27 x1 x5).f1) ((rd_T27 x1 x5).f2) ((rd_T27 x1 x5).f3) ((rd_T27 x1 x5).f4)).bind fun bI => (laws_eaDo.l0 k x1 (wrap64 (x5 + 1)) bI.1 bI.2.1 bI.2.2.1)) else (none)) else (some (x511000, x511001, x511002))
def laws_eaDo.f (k : Nat) (a0_0 : Int) (a0_1 : Int) (l0_2 : List (S38)) (l1 : List (S27)) : Option (Int × Int × (List (S38))) := laws_eaDo.l0 k l1 0 a0_0 a0_1 l0_2
theorem laws_eaDo.mono_l : ∀ k, (∀ y0 y1 y2 y3 y4, LeO (laws_eaDo.l0 k y0 y1 y2 y3 y4) (laws_eaDo.l0 (k + 1) y0 y1 y2 y3 y4))
 | 0 => (fun _ _ _ _ _ r h => nomatch (show none = some r from h))
 | k + 1 => by
  have ih0 := laws_eaDo.mono_l k
  ·intro y0 y1 y2 y3 y4
   unfold laws_eaDo.l0
   repeat' first
   | (with_reducible exact ih0 _ _ _ _ _)
   | (with_reducible exact impl_OpDo.mono _ _ _ _ _ _ _ _ _)
   | (with_reducible exact LeO.refl _)
   | (with_reducible exact LeO.none _)
   | (with_reducible refine LeO.ite ?_ ?_)
   | (with_reducible refine LeO.bind ?_ (fun _ => ?_))
   | exact ih0 _ _ _ _ _
   | exact impl_OpDo.mono _ _ _ _ _ _ _ _ _
   | exact LeO.none _
   | refine LeO.ite ?_ ?_
   | refine LeO.bind ?_ (fun _ => ?_)
theorem laws_eaDo.mono : ∀ a0 a1 a2 a3 k, LeO (laws_eaDo.f k a0 a1 a2 a3) (laws_eaDo.f (k + 1) a0 a1 a2 a3) := by
 intro a0 a1 a2 a3 k
 have ih0 := laws_eaDo.mono_l k
 unfold laws_eaDo.f
 repeat' first
   | (with_reducible exact ih0 _ _ _ _ _)
   | (with_reducible exact impl_OpDo.mono _ _ _ _ _ _ _ _ _)
   | (with_reducible exact LeO.refl _)
   | (with_reducible exact LeO.none _)
   | (with_reducible refine LeO.ite ?_ ?_)
   | (with_reducible refine LeO.bind ?_ (fun _ => ?_))
   | exact ih0 _ _ _ _ _
   | exact impl_OpDo.mono _ _ _ _ _ _ _ _ _
   | exact LeO.none _
   | refine LeO.ite ?_ ?_
   | refine LeO.bind ?_ (fun _ => ?_)
def laws_eaDo.T4 : Bool × List (List Nat × List Nat) := (true, [([], []), ([], []), ([], []), ([1, 2], [1, 2]), ([3], [3]), ([0, 4], [0, 4]), ([5], [5]), ([6], [6]), ([6], [6]), ([], []), ([9, 7, 5, 0, 1, 2, 3, 4, 5, 6, 7, 9], [7, 9]), ([8, 10, 0, 1, 2, 3, 4, 5, 6, 7, 8, 9, 10], [8])])
def laws_eaDo.B4 : List Nat := [0, 0, 0, 6, 14, 31, 63, 127, 127, 0, 767, 2047]
theorem laws_eaDo.tab4 : rtab .any (opsOf Try.f27 4) = laws_eaDo.T4 := by kernel_rfl
theorem laws_eaDo.bits4 : waitsOk laws_eaDo.T4.2 laws_eaDo.B4 = true := by kernel_rfl
set_option maxHeartbeats 8000000 in
set_option maxRecDepth 100000 in
theorem laws_eaDo.calls (k : Nat) (a0_0 : Int) (a0_1 : Int) (P0_2_ : Nat → Prop) (bH : Option Addr) (bJ : Nat) (l0_2 : List (S38)) (A1 : Option Addr) (c1 : Nat) (l1 : List (S27)) (r1 : Int) (r2 : Int) (r3 : List (S38)) (w : World) (hs0_2 : Kd.V k38 38 w w.heap.size (fun k_ => P0_2_ k_) (.slice bH l0_2.length bJ) l0_2) (hr1 : Kd.C k27 w A1 l1.length l1) (dC : l1.length ≤ c1) (h : laws_eaDo.f k a0_0 a0_1 l0_2 l1 = some (r1, r2, r3)) :
  Calls Try.prog 27 #[.agg #[.int .i64 a0_0, .int .i64 a0_1, .slice bH l0_2.length bJ], .slice A1 l1.length c1] w fun e w' => ∃ dV : Value, e = .returned (.agg #[.int .i64 r1, .int .i64 r2, dV]) ∧ Kd.V k38 38 w' w.heap.size (fun k_ => (P0_2_ k_ ∨ w.heap.size ≤ k_)) dV r3 ∧ Below w.heap.size w w' := by
 have hu25 := Try.underlying25
 have hu27 := Try.underlying27
 have aY := Aside0.mk (show Kd.V k38 38 w w.heap.size (fun k_ => (P0_2_ k_ ∨ w.heap.size ≤ k_)) (.slice bH l0_2.length bJ) l0_2 from Kd.V_mono hs0_2 (fun k_ hk => .inl hk))
 have dW := Aside0.mk hr1
 have eB := Aside0.mk dC
 clear hr1 dC
 have HB := Aside0.mk (Below.refl w.heap.size w)
 have H : (laws_eaDo.l0 k l1 0 a0_0 a0_1 l0_2) = some (r1, r2, r3) := h
 clear h
 have H' := Aside0.mk H
 clear H
 go_enter Try.func27, Try.ntmps27
 go_wp2_with (first | ((with_reducible refine gate_dst (N := 2) rfl ?_); refine box_event rfl (N := 2) rfl (cs := #[.int .i64 a0_0, .int .i64 a0_1, .slice bH l0_2.length bJ]) (t := 25) oS ?_; intro aK hg w3 hbox hb; have n_ := o2_ (Kd.V_below (Kd.V_elderB (oV aY) aK (Nat.le_of_eq hg.symm)) hb) (o2_ (below_step (oB HB) hb) (o2_ (hbox) (o2_ ((oG hg (below_size (oB HB)) : w.heap.size ≤ aK)) (o1_ ((oG hg (below_size (oB HB)) : w.heap.size ≤ aK)))))); clear aY HB; obtain ⟨aY, HB, aC, dA, cY⟩ := n_; clear hb hbox hg) | ((with_reducible refine gate_dst (N := 4) rfl ?_); refine box_event rfl (N := 4) rfl (cs := #[.int .i64 0, .int .i64 0, .slice none 0 0]) (t := 25) oS ?_; intro aM hg w4 hbox hb; have n_ := o2_ (Kd.V_below (Kd.V_elderB (oV aY) aM (Nat.le_of_eq hg.symm)) hb) (o2_ (blk_below (oP aC) hb) (o2_ (below_step (oB HB) hb) (o2_ (hbox) (o2_ ((oG hg (below_size (oB HB)) : w.heap.size ≤ aM)) (o2_ ((oG hg (below_size (oB HB)) : w.heap.size ≤ aM)) (o2_ ((oL hg (blk_lt (oP aC)))) (o1_ ((oN hg (blk_lt (oP aC))))))))))); clear aY aC HB; obtain ⟨aY, aC, HB, aJ, dB, cZ, bA, bB⟩ := n_; clear hb hbox hg))
 go_loopg [5] k (fun kq v5 w' => ∃ (aE : Int) (aH : Int) (aI : Int) (aF : List (S38)) (aX : Value), v5 = .int .i64 aE ∧ Aside0 (laws_eaDo.l0 kq l1 aE aH aI aF = some (r1, r2, r3)) ∧ Aside0 (kq ≤ k) ∧ Aside0 (Kd.V k38 38 w' w.heap.size (fun k_ => (P0_2_ k_ ∨ w.heap.size ≤ k_) ∧ k_ ≠ aK ∧ k_ ≠ aM) aX aF) ∧ Aside0 (w'.heap[aK]? = some (.cells #[.int .i64 aH, .int .i64 aI, aX] 25 (0, 0))) ∧ Aside0 (w'.heap[aM]? = some (.cells #[.int .i64 0, .int .i64 0, (.slice none 0 0)] 25 (0, 0))) ∧ Aside0 (Below w.heap.size w w'))
 case atStart => exact ⟨(0), (a0_0), (a0_1), (l0_2), (.slice bH l0_2.length bJ), oU, H', ⟨Nat.le_refl _⟩, ⟨(by (with_reducible repeat (first | apply Kd.V_alloc | apply Kd.V_drewN | apply Kd.V_drew)); exact Kd.V_mono aY.out (fun _ hk => ⟨hk.1.1, ⟨hk.1.2, hk.2⟩⟩))⟩, ⟨(oP aC)⟩, ⟨(oP aJ)⟩, ⟨(oB HB)⟩⟩
 case round =>
  clear H'
  try clear c1
  try clear c2
  try clear p2
  obtain ⟨aE, aH, aI, aF, aX, rfl, HA, HK1, aA, aC, aJ, HB⟩ := hrel
  cases gk with
  | zero => exact nomatch (show none = some _ from HA.out)
  | succ k1 =>
   have H := HA.out
   clear HA
   simp only [laws_eaDo.l0] at H
   by_cases c5 : aE < (l1.length : Int)
   ·rw [if_pos c5] at H
    have cU : decide (aE < (l1.length : Int)) = true := decide_eq_true c5
    clear c5
    by_cases c6 : 0 ≤ aE
    ·rw [if_pos c6] at H
     have dX : decide (0 ≤ aE) = true := decide_eq_true c6
     clear c6
     replace H := Option.bind_eq_some_iff.mp H
     obtain ⟨⟨bC, bD, bE, bK⟩, cX, H⟩ := H
     (try dsimp only at H)
     have A7 := Aside0.mk cX
     clear cX
     have H' := Aside0.mk H
     clear H
     obtain ⟨bL, bM, dY⟩ := Kd.V_slice aA.out
     subst dY
     try go_wp2
     have n_ := o2_ (Kd.V_drew aA.out) (o2_ (blk_drew aC.out) (o2_ (blk_drew aJ.out) (o1_ (below_drew1 HB.out))))
     clear aA aC aJ HB
     obtain ⟨aA, aC, aJ, HB⟩ := n_
     have bP : 0 ≤ (aE : Int) := of_decide_eq_true oM
     have bQ : aE < (l1.length : Int) := of_decide_eq_true oM
     obtain ⟨aL, cV, aS, aT, aU, aV, aW⟩ := at_T27 dW.out aE bP bQ
     have hw512_4 := aW
     have hw512_3 := aV
     have hw512_2 := aU
     have hw512_1 := aT
     have hw512_0 := aS
     cases cV
     replace aS := (HB.out.cell (World.block_lt_of_cell? w _ aS)).trans aS
     replace aT := (HB.out.cell (World.block_lt_of_cell? w _ aT)).trans aT
     replace aU := (HB.out.cell (World.block_lt_of_cell? w _ aU)).trans aU
     replace aV := (HB.out.cell (World.block_lt_of_cell? w _ aV)).trans aV
     replace aW := (HB.out.cell (World.block_lt_of_cell? w _ aW)).trans aW
     replace bP := eq_true bP
     replace bQ := eq_true bQ
     refine start_ (n := 12) (S := fun w' => w'.cell? ⟨aK, 0, none⟩ = some (.int .i64 aH) ∧ w'.cell? ⟨aK, 1, none⟩ = some (.int .i64 aI) ∧ w'.cell? ⟨aK, 2, none⟩ = some (.slice bL aF.length bM) ∧ w'.cell? (aL.add ((aE).toNat * 5)) = some (.int .i64 ((rd_T27 l1 aE).f0)) ∧ w'.cell? ⟨(aL.add ((aE).toNat * 5)).block, (aL.add ((aE).toNat * 5)).off + 1, none⟩ = some (.int .i64 ((rd_T27 l1 aE).f1)) ∧ w'.cell? ⟨(aL.add ((aE).toNat * 5)).block, (aL.add ((aE).toNat * 5)).off + 2, none⟩ = some (.int .i64 ((rd_T27 l1 aE).f2)) ∧ w'.cell? ⟨(aL.add ((aE).toNat * 5)).block, (aL.add ((aE).toNat * 5)).off + 3, none⟩ = some (.int .i64 ((rd_T27 l1 aE).f3)) ∧ w'.cell? ⟨(aL.add ((aE).toNat * 5)).block, (aL.add ((aE).toNat * 5)).off + 4, none⟩ = some (.int .i64 ((rd_T27 l1 aE).f4))) (ds := []) #[false, false, false, false, false, false, false, false, false, false, false, false] oK rfl rfl ⟨(blk_cell aC.out 0).trans rfl, (blk_cell aC.out 1).trans rfl, (blk_cell aC.out 2).trans rfl, ((HB.out.cell (World.block_lt_of_cell? w _ hw512_0)).trans hw512_0), ((HB.out.cell (World.block_lt_of_cell? w _ hw512_1)).trans hw512_1), ((HB.out.cell (World.block_lt_of_cell? w _ hw512_2)).trans hw512_2), ((HB.out.cell (World.block_lt_of_cell? w _ hw512_3)).trans hw512_3), ((HB.out.cell (World.block_lt_of_cell? w _ hw512_4)).trans hw512_4)⟩ (fun hHeld => ?_); refine with_tabW laws_eaDo.tab4 laws_eaDo.bits4 (fun HT_ HW_ => ?_)
     generalize wr.drew = w9 at aA aC aJ HB aS aT aU aV aW hHeld ⊢
     refine pure_ (i := 1) (N := some 16) (v := ?_) (a' := ?_) #[false, true, false, false, false, false, false, false, false, false, false, false] rfl rfl (any_of HT_.out oK) (fun _ _ _ h => h) (Or.inl ⟨by rfl, ?_⟩) ?_ ?_
     rotate_left
     ·intro w'
      go_simp
      with_reducible rfl
     rotate_left
     ·exact oT
     refine pure_ (i := 2) (N := some 17) (v := ?_) (a' := ?_) #[false, true, true, false, false, false, false, false, false, false, false, false] rfl rfl (any_of HT_.out oK) (fun _ _ _ h => h) (Or.inl ⟨by rfl, ?_⟩) ?_ ?_
     rotate_left
     ·intro w'
      go_simp
      with_reducible rfl
     rotate_left
     ·exact oT
     refine pure_ (i := 3) (N := some 18) (v := ?_) (a' := ?_) #[false, true, true, true, false, false, false, false, false, false, false, false] rfl rfl (any_of HT_.out oK) (fun _ _ _ h => h) (Or.inl ⟨by rfl, ?_⟩) ?_ ?_
     rotate_left
     ·intro w'
      go_simp
      with_reducible rfl
     rotate_left
     ·exact oT
     refine take_ (i := 0) (N := some 15) (v := ?_) (a' := ?_) #[true, true, true, true, false, false, false, false, false, false, false, false] rfl rfl (take_ofW HT_.out HW_.out oK) (fun _ _ _ h => h) (Or.inl ⟨by rfl, ?_⟩) hHeld ?_ ?_
     rotate_left
     ·rintro w' ⟨s0, s1, s2, s3, s4, s5, s6, s7⟩
      go_simp
      with_reducible rfl
     rotate_left
     ·exact oT
     refine take_ (i := 4) (N := some 19) (v := ?_) (a' := ?_) #[true, true, true, true, true, false, false, false, false, false, false, false] rfl rfl (take_ofW HT_.out HW_.out oK) (fun _ _ _ h => h) (Or.inl ⟨by rfl, ?_⟩) hHeld ?_ ?_
     rotate_left
     ·rintro w' ⟨s0, s1, s2, s3, s4, s5, s6, s7⟩
      go_simp
      with_reducible rfl
     rotate_left
     ·exact oT
     refine join_ (σ := Value × Nat) 2 #[true, true, true, true, true, true, true, true, true, true, false, false] (fun s_ => [(20, .tuple #[.agg #[.int .i64 bC, .int .i64 bD, s_.1], .bool bK]), (6, .pointer (some ⟨s_.2, 0, none⟩)), (14, .tuple #[.agg #[.int .i64 bC, .int .i64 bD, s_.1], .bool bK]), (21, .agg #[.int .i64 bC, .int .i64 bD, s_.1]), (22, .bool bK)]) (fun s_ w' => (w'.cell? ⟨aK, 0, none⟩ = some (.int .i64 aH) ∧ w'.cell? ⟨aK, 1, none⟩ = some (.int .i64 aI) ∧ w'.cell? ⟨aK, 2, none⟩ = some (.slice bL aF.length bM) ∧ w'.cell? (aL.add ((aE).toNat * 5)) = some (.int .i64 ((rd_T27 l1 aE).f0)) ∧ w'.cell? ⟨(aL.add ((aE).toNat * 5)).block, (aL.add ((aE).toNat * 5)).off + 1, none⟩ = some (.int .i64 ((rd_T27 l1 aE).f1)) ∧ w'.cell? ⟨(aL.add ((aE).toNat * 5)).block, (aL.add ((aE).toNat * 5)).off + 2, none⟩ = some (.int .i64 ((rd_T27 l1 aE).f2)) ∧ w'.cell? ⟨(aL.add ((aE).toNat * 5)).block, (aL.add ((aE).toNat * 5)).off + 3, none⟩ = some (.int .i64 ((rd_T27 l1 aE).f3)) ∧ w'.cell? ⟨(aL.add ((aE).toNat * 5)).block, (aL.add ((aE).toNat * 5)).off + 4, none⟩ = some (.int .i64 ((rd_T27 l1 aE).f4))) ∧ (Kd.R k38 38 w' w.heap.size (fun k_ => (w.heap.size ≤ k_)) s_.1 bE) ∧ (Kd.V k38 38 w' w.heap.size (fun k_ => (P0_2_ k_ ∨ w.heap.size ≤ k_) ∧ some k_ ≠ (s_.1 : Value).ownBlock ∧ k_ ≠ aK ∧ k_ ≠ aM ∧ k_ ≠ s_.2) (.slice bL aF.length bM) aF) ∧ (w'.heap[aK]? = some (.cells #[.int .i64 aH, .int .i64 aI, .slice bL aF.length bM] 25 (0, 0))) ∧ (w'.heap[aM]? = some (.cells #[.int .i64 0, .int .i64 0, .slice none 0 0] 25 (0, 0))) ∧ (w'.heap[s_.2]? = some (.cells #[.int .i64 0, .int .i64 0, .slice none 0 0] 25 (0, 0))) ∧ (w.heap.size ≤ s_.2) ∧ (w.heap.size ≤ s_.2) ∧ (aK ≠ s_.2) ∧ (s_.2 ≠ aK) ∧ (aM ≠ s_.2) ∧ (s_.2 ≠ aM) ∧ (Below w.heap.size w w')) ?_ ?_
     rotate_left
     ·intro hCont
      refine two_ (i := 5) (j := 9) (Ni := some 20) (Nj := some 6) #[true, true, true, true, true, true, false, false, false, false, false, false] #[true, true, true, true, true, false, false, false, false, true, false, false] rfl rfl rfl rfl (two_of HT_.out oK) oD oD (fun K hK => ?_) (fun K hK => ?_)
      ·skip
       refine goes_ Try.func19 oK rfl #[.agg #[.int .i64 aH, .int .i64 aI, .slice bL aF.length bM], .agg #[.int .i64 ((rd_T27 l1 aE).f0), .int .i64 ((rd_T27 l1 aE).f1), .int .i64 ((rd_T27 l1 aE).f2), .int .i64 ((rd_T27 l1 aE).f3), .int .i64 ((rd_T27 l1 aE).f4)]] (by rfl) rfl rfl oA ?_
       with_reducible refine (impl_OpDo.calls k1 aH aI _ _ aF ((rd_T27 l1 aE).f0) ((rd_T27 l1 aE).f1) ((rd_T27 l1 aE).f2) ((rd_T27 l1 aE).f3) ((rd_T27 l1 aE).f4) bC bD bE bK _ ?side1 ?side2 A7.out).mono ?_
       (case side1 => repeat (first | exact (Kd.V_reads' aA.out).2.2 | (with_reducible refine Kd.C_alloc ?_ _) | (with_reducible refine Kd.C_drewN ?_ _) | (with_reducible refine Kd.C_drew ?_)))
       (case side2 => exact (Kd.V_reads' aA.out).2.1)
       rintro e dZ ⟨bG, rfl, ho0, hb⟩
       refine ⟨_, rfl, ?_⟩
       have n_ := o2_ (Kd.V_elder' (oV aA) (Kd.R_base ho0) hb) (o2_ (Kd.R_lower (Kd.R_newM (M := fun k_ => (w.heap.size ≤ k_)) ho0 (below_size (oB HB)) (fun k_ h_ => h_)) (below_size (oB HB))) (o2_ (blk_below (oP aC) hb) (o2_ (blk_below (oP aJ) hb) (o1_ (below_step (oB HB) hb)))))
       clear aA aC aJ HB
       obtain ⟨aA, aR, aC, aJ, HB⟩ := n_
       (try clear hb)
       (try clear hb2)
       (try clear hk)
       (try clear hi)
       (try clear ho0)
       refine hK.out _ _ ⟨(blk_cell aC.out 0).trans rfl, (blk_cell aC.out 1).trans rfl, (blk_cell aC.out 2).trans rfl, ((HB.out.cell (World.block_lt_of_cell? w _ hw512_0)).trans hw512_0), ((HB.out.cell (World.block_lt_of_cell? w _ hw512_1)).trans hw512_1), ((HB.out.cell (World.block_lt_of_cell? w _ hw512_2)).trans hw512_2), ((HB.out.cell (World.block_lt_of_cell? w _ hw512_3)).trans hw512_3), ((HB.out.cell (World.block_lt_of_cell? w _ hw512_4)).trans hw512_4)⟩ (fun hHeld => ?_)
       clear hK K
       refine norm_ (a' := ?_) ?_ ?_
       rotate_left
       ·show Act.put _ (some 20) _ = _
        exact oT
       refine pure_ (i := 6) (N := some 14) (v := ?_) (a' := ?_) #[true, true, true, true, true, true, true, false, false, false, false, false] rfl rfl (any_of HT_.out oK) (fun _ _ _ h => h) (Or.inl ⟨by rfl, ?_⟩) ?_ ?_
       rotate_left
       ·intro w'
        go_simp
        with_reducible rfl
       rotate_left
       ·exact oT
       refine pure_ (i := 7) (N := some 21) (v := ?_) (a' := ?_) #[true, true, true, true, true, true, true, true, false, false, false, false] rfl rfl (any_of HT_.out oK) (fun _ _ _ h => h) (Or.inl ⟨by rfl, ?_⟩) ?_ ?_
       rotate_left
       ·intro w'
        go_simp
        with_reducible rfl
       rotate_left
       ·exact oT
       refine pure_ (i := 8) (N := some 22) (v := ?_) (a' := ?_) #[true, true, true, true, true, true, true, true, true, false, false, false] rfl rfl (any_of HT_.out oK) (fun _ _ _ h => h) (Or.inl ⟨by rfl, ?_⟩) ?_ ?_
       rotate_left
       ·intro w'
        go_simp
        with_reducible rfl
       rotate_left
       ·exact oT
       refine one_ (i := 9) (N := some 6) #[true, true, true, true, true, true, true, true, true, true, false, false] rfl rfl (one_of HT_.out oK) oD (fun K hK => ?_)
       refine box_step ?hg (N := 6) ?hd (cs := #[.int .i64 0, .int .i64 0, .slice none 0 0]) (t := 25) ?hr ?_; (case hd => rfl); (case hg => rfl); (case hr => first | (go_simp; done) | (go_simp; rfl))
       intro aD hg eA hbox hb
       have n_ := o2_ (Kd.V_below (Kd.V_elderB (oV aA) aD (Nat.le_of_eq hg.symm)) hb) (o2_ (Kd.R_below (oR aR) hb) (o2_ (blk_below (oP aC) hb) (o2_ (blk_below (oP aJ) hb) (o2_ (below_step (oB HB) hb) (o2_ (hbox) (o2_ ((oG hg (below_size (oB HB)) : w.heap.size ≤ aD)) (o2_ ((oG hg (below_size (oB HB)) : w.heap.size ≤ aD)) (o2_ ((oL hg (blk_lt (oP aC)))) (o2_ ((oN hg (blk_lt (oP aC)))) (o2_ ((oL hg (blk_lt (oP aJ)))) (o1_ ((oN hg (blk_lt (oP aJ)))))))))))))))
       clear aA aR aC aJ HB
       obtain ⟨aA, aR, aC, aJ, HB, aN, aB, bF, aG, aP, aO, aQ⟩ := n_
       clear hb hbox hg
       refine hK.out _ _ ⟨(blk_cell aC.out 0).trans rfl, (blk_cell aC.out 1).trans rfl, (blk_cell aC.out 2).trans rfl, ((HB.out.cell (World.block_lt_of_cell? w _ hw512_0)).trans hw512_0), ((HB.out.cell (World.block_lt_of_cell? w _ hw512_1)).trans hw512_1), ((HB.out.cell (World.block_lt_of_cell? w _ hw512_2)).trans hw512_2), ((HB.out.cell (World.block_lt_of_cell? w _ hw512_3)).trans hw512_3), ((HB.out.cell (World.block_lt_of_cell? w _ hw512_4)).trans hw512_4)⟩ (fun hHeld => ?_)
       clear hK K
       refine norm_ (a' := ?_) ?_ ?_
       rotate_left
       ·show Act.put _ (some 6) _ = _
        exact oT
       exact norm_ (by simp only [putAll, Act.put, List.setIfInBounds_toArray, List.set_cons_zero, List.set_cons_succ]) (hCont (bG, aD) _ ⟨hHeld, (by (with_reducible repeat (first | apply Kd.R_alloc | apply Kd.R_drewN | apply Kd.R_drew)); exact Kd.R_mono aR.out (fun _ hk => hk.1)), (by (with_reducible repeat (first | apply Kd.V_alloc | apply Kd.V_drewN | apply Kd.V_drew)); exact Kd.V_mono aA.out (fun _ hk => ⟨hk.1.1.1, ⟨hk.1.2, ⟨hk.1.1.2.1, ⟨hk.1.1.2.2, hk.2⟩⟩⟩⟩)), (oP aC), (oP aJ), (oP aN), aB.out, bF.out, aG.out, aP.out, aO.out, aQ.out, (oB HB)⟩)
      ·skip
       refine box_step ?hg (N := 6) ?hd (cs := #[.int .i64 0, .int .i64 0, .slice none 0 0]) (t := 25) ?hr ?_; (case hd => rfl); (case hg => rfl); (case hr => first | (go_simp; done) | (go_simp; rfl))
       intro aD hg dZ hbox hb
       have n_ := o2_ (Kd.V_below (Kd.V_elderB (oV aA) aD (Nat.le_of_eq hg.symm)) hb) (o2_ (blk_below (oP aC) hb) (o2_ (blk_below (oP aJ) hb) (o2_ (below_step (oB HB) hb) (o2_ (hbox) (o2_ ((oG hg (below_size (oB HB)) : w.heap.size ≤ aD)) (o2_ ((oG hg (below_size (oB HB)) : w.heap.size ≤ aD)) (o2_ ((oL hg (blk_lt (oP aC)))) (o2_ ((oN hg (blk_lt (oP aC)))) (o2_ ((oL hg (blk_lt (oP aJ)))) (o1_ ((oN hg (blk_lt (oP aJ))))))))))))))
       clear aA aC aJ HB
       obtain ⟨aA, aC, aJ, HB, aN, aB, bF, aG, aP, aO, aQ⟩ := n_
       clear hb hbox hg
       refine hK.out _ _ ⟨(blk_cell aC.out 0).trans rfl, (blk_cell aC.out 1).trans rfl, (blk_cell aC.out 2).trans rfl, ((HB.out.cell (World.block_lt_of_cell? w _ hw512_0)).trans hw512_0), ((HB.out.cell (World.block_lt_of_cell? w _ hw512_1)).trans hw512_1), ((HB.out.cell (World.block_lt_of_cell? w _ hw512_2)).trans hw512_2), ((HB.out.cell (World.block_lt_of_cell? w _ hw512_3)).trans hw512_3), ((HB.out.cell (World.block_lt_of_cell? w _ hw512_4)).trans hw512_4)⟩ (fun hHeld => ?_)
       clear hK K
       refine norm_ (a' := ?_) ?_ ?_
       rotate_left
       ·show Act.put _ (some 6) _ = _
        exact oT
       refine one_ (i := 5) (N := some 20) #[true, true, true, true, true, true, false, false, false, true, false, false] rfl rfl (one_of HT_.out oK) oD (fun K hK => ?_)
       refine goes_ Try.func19 oK rfl #[.agg #[.int .i64 aH, .int .i64 aI, .slice bL aF.length bM], .agg #[.int .i64 ((rd_T27 l1 aE).f0), .int .i64 ((rd_T27 l1 aE).f1), .int .i64 ((rd_T27 l1 aE).f2), .int .i64 ((rd_T27 l1 aE).f3), .int .i64 ((rd_T27 l1 aE).f4)]] (by rfl) rfl rfl oA ?_
       with_reducible refine (impl_OpDo.calls k1 aH aI _ _ aF ((rd_T27 l1 aE).f0) ((rd_T27 l1 aE).f1) ((rd_T27 l1 aE).f2) ((rd_T27 l1 aE).f3) ((rd_T27 l1 aE).f4) bC bD bE bK _ ?side1 ?side2 A7.out).mono ?_
       (case side1 => repeat (first | exact (Kd.V_reads' aA.out).2.2 | (with_reducible refine Kd.C_alloc ?_ _) | (with_reducible refine Kd.C_drewN ?_ _) | (with_reducible refine Kd.C_drew ?_)))
       (case side2 => exact (Kd.V_reads' aA.out).2.1)
       rintro e eA ⟨bG, rfl, ho0, hb⟩
       refine ⟨_, rfl, ?_⟩
       have n_ := o2_ (Kd.V_elder' (oV aA) (Kd.R_base ho0) hb) (o2_ (Kd.R_lower (Kd.R_newM (M := fun k_ => (w.heap.size ≤ k_)) ho0 (below_size (oB HB)) (fun k_ h_ => h_)) (below_size (oB HB))) (o2_ (blk_below (oP aC) hb) (o2_ (blk_below (oP aJ) hb) (o2_ (blk_below (oP aN) hb) (o1_ (below_step (oB HB) hb))))))
       clear aA aC aJ aN HB
       obtain ⟨aA, aR, aC, aJ, aN, HB⟩ := n_
       (try clear hb)
       (try clear hb2)
       (try clear hk)
       (try clear hi)
       (try clear ho0)
       refine hK.out _ _ ⟨(blk_cell aC.out 0).trans rfl, (blk_cell aC.out 1).trans rfl, (blk_cell aC.out 2).trans rfl, ((HB.out.cell (World.block_lt_of_cell? w _ hw512_0)).trans hw512_0), ((HB.out.cell (World.block_lt_of_cell? w _ hw512_1)).trans hw512_1), ((HB.out.cell (World.block_lt_of_cell? w _ hw512_2)).trans hw512_2), ((HB.out.cell (World.block_lt_of_cell? w _ hw512_3)).trans hw512_3), ((HB.out.cell (World.block_lt_of_cell? w _ hw512_4)).trans hw512_4)⟩ (fun hHeld => ?_)
       clear hK K
       refine norm_ (a' := ?_) ?_ ?_
       rotate_left
       ·show Act.put _ (some 20) _ = _
        exact oT
       refine pure_ (i := 6) (N := some 14) (v := ?_) (a' := ?_) #[true, true, true, true, true, true, true, false, false, true, false, false] rfl rfl (any_of HT_.out oK) (fun _ _ _ h => h) (Or.inl ⟨by rfl, ?_⟩) ?_ ?_
       rotate_left
       ·intro w'
        go_simp
        with_reducible rfl
       rotate_left
       ·exact oT
       refine pure_ (i := 7) (N := some 21) (v := ?_) (a' := ?_) #[true, true, true, true, true, true, true, true, false, true, false, false] rfl rfl (any_of HT_.out oK) (fun _ _ _ h => h) (Or.inl ⟨by rfl, ?_⟩) ?_ ?_
       rotate_left
       ·intro w'
        go_simp
        with_reducible rfl
       rotate_left
       ·exact oT
       refine pure_ (i := 8) (N := some 22) (v := ?_) (a' := ?_) #[true, true, true, true, true, true, true, true, true, true, false, false] rfl rfl (any_of HT_.out oK) (fun _ _ _ h => h) (Or.inl ⟨by rfl, ?_⟩) ?_ ?_
       rotate_left
       ·intro w'
        go_simp
        with_reducible rfl
       rotate_left
       ·exact oT
       exact norm_ (by simp only [putAll, Act.put, List.setIfInBounds_toArray, List.set_cons_zero, List.set_cons_succ]) (hCont (bG, aD) _ ⟨hHeld, (by (with_reducible repeat (first | apply Kd.R_alloc | apply Kd.R_drewN | apply Kd.R_drew)); exact Kd.R_mono aR.out (fun _ hk => hk.1)), (by (with_reducible repeat (first | apply Kd.V_alloc | apply Kd.V_drewN | apply Kd.V_drew)); exact Kd.V_mono aA.out (fun _ hk => ⟨hk.1.1.1, ⟨hk.2, ⟨hk.1.1.2.1, ⟨hk.1.1.2.2, hk.1.2⟩⟩⟩⟩)), (oP aC), (oP aJ), (oP aN), aB.out, bF.out, aG.out, aP.out, aO.out, aQ.out, (oB HB)⟩)
     rintro ⟨bG, aD⟩ aZ ⟨hS_, h0_, h1_, h2_, h3_, h4_, h5_, h6_, h7_, h8_, h9_, h10_, h11_⟩
     have dL : Aside0 (Kd.R k38 38 aZ w.heap.size (fun k_ => (w.heap.size ≤ k_)) bG bE) := ⟨h0_⟩
     have dM : Aside0 (Kd.V k38 38 aZ w.heap.size (fun k_ => (P0_2_ k_ ∨ w.heap.size ≤ k_) ∧ some k_ ≠ (bG : Value).ownBlock ∧ k_ ≠ aK ∧ k_ ≠ aM ∧ k_ ≠ aD) (.slice bL aF.length bM) aF) := ⟨h1_⟩
     have dN : Aside0 (aZ.heap[aK]? = some (.cells #[.int .i64 aH, .int .i64 aI, .slice bL aF.length bM] 25 (0, 0))) := ⟨h2_⟩
     have dO : Aside0 (aZ.heap[aM]? = some (.cells #[.int .i64 0, .int .i64 0, .slice none 0 0] 25 (0, 0))) := ⟨h3_⟩
     have dP : Aside0 (aZ.heap[aD]? = some (.cells #[.int .i64 0, .int .i64 0, .slice none 0 0] 25 (0, 0))) := ⟨h4_⟩
     have dQ : Aside0 (w.heap.size ≤ aD) := ⟨h5_⟩
     have dR : Aside0 (w.heap.size ≤ aD) := ⟨h6_⟩
     have dS : Aside0 (aK ≠ aD) := ⟨h7_⟩
     have dT : Aside0 (aD ≠ aK) := ⟨h8_⟩
     have dU : Aside0 (aM ≠ aD) := ⟨h9_⟩
     have bU : Aside0 (aD ≠ aM) := ⟨h10_⟩
     have bV : Aside0 (Below w.heap.size w aZ) := ⟨h11_⟩
     clear aA
     clear aC
     clear aJ
     clear HB
     clear h0_ h1_ h2_ h3_ h4_ h5_ h6_ h7_ h8_ h9_ h10_ h11_
     have aR := dL
     have aA := dM
     have aC := dN
     have aJ := dO
     have aN := dP
     have aB := dQ
     have bF := dR
     have aG := dS
     have aP := dT
     have aO := dU
     have aQ := bU
     have HB := bV
     clear dL dM dN dO dP dQ dR dS dT dU bU bV
     have hHeld : aZ.cell? ⟨aK, 0, none⟩ = some (.int .i64 aH) ∧ aZ.cell? ⟨aK, 1, none⟩ = some (.int .i64 aI) ∧ aZ.cell? ⟨aK, 2, none⟩ = some (.slice bL aF.length bM) ∧ aZ.cell? (aL.add ((aE).toNat * 5)) = some (.int .i64 ((rd_T27 l1 aE).f0)) ∧ aZ.cell? ⟨(aL.add ((aE).toNat * 5)).block, (aL.add ((aE).toNat * 5)).off + 1, none⟩ = some (.int .i64 ((rd_T27 l1 aE).f1)) ∧ aZ.cell? ⟨(aL.add ((aE).toNat * 5)).block, (aL.add ((aE).toNat * 5)).off + 2, none⟩ = some (.int .i64 ((rd_T27 l1 aE).f2)) ∧ aZ.cell? ⟨(aL.add ((aE).toNat * 5)).block, (aL.add ((aE).toNat * 5)).off + 3, none⟩ = some (.int .i64 ((rd_T27 l1 aE).f3)) ∧ aZ.cell? ⟨(aL.add ((aE).toNat * 5)).block, (aL.add ((aE).toNat * 5)).off + 4, none⟩ = some (.int .i64 ((rd_T27 l1 aE).f4)) := hS_
     obtain ⟨bN, bO, bT⟩ := Kd.R_slice aR.out
     (first | subst bT | (injection bT with f1_ f2_ f3_; have f4_ := f1_.symm; have f5_ := f3_.symm; clear f1_ f2_ f3_; subst f4_; subst f5_))
     refine norm_ (a' := ?_) ?_ ?_
     rotate_left
     ·simp only [putAll, Act.put, List.setIfInBounds_toArray, List.set_cons_zero, List.set_cons_succ]
      rfl
     refine one_ (i := 10) (N := none) #[true, true, true, true, true, true, true, true, true, true, true, false] rfl rfl (one_of HT_.out oK) oD (fun K hK => ?_)
     have hs13 : aZ.cell? ⟨aD, 0, none⟩ = some (.int .i64 0) := (blk_cell aN.out 0).trans rfl
     have hfs13 := blk_frozen aN.out 0
     have hns13_0 := aG.out
     have hns13_1 := aO.out
     have hms13_0 := aP.out
     have hms13_1 := aQ.out
     have hs14 : aZ.cell? ⟨aD, 1, none⟩ = some (.int .i64 0) := (blk_cell aN.out 1).trans rfl
     have hfs14 := blk_frozen aN.out 1
     have hns14_0 := aG.out
     have hns14_1 := aO.out
     have hms14_0 := aP.out
     have hms14_1 := aQ.out
     have hs16 : aZ.cell? ⟨aD, 2, none⟩ = some (.slice none 0 0) := (blk_cell aN.out 2).trans rfl
     have hfs16 := blk_frozen aN.out 2
     have hns16_0 := aG.out
     have hns16_1 := aO.out
     have hms16_0 := aP.out
     have hms16_1 := aQ.out
     refine skip_ (w1 := ?_) (by rfl) rfl ?_ ?_
     rotate_left
     ·go_simp
      rfl
     refine hK.out _ _ ⟨((cell_far (p := ⟨aD, _, none⟩) aG.out _).trans (((cell_far (p := ⟨aD, _, none⟩) aG.out _).trans (((cell_far (p := ⟨aD, _, none⟩) aG.out _).trans (hHeld.1)))))), ((cell_far (p := ⟨aD, _, none⟩) aG.out _).trans (((cell_far (p := ⟨aD, _, none⟩) aG.out _).trans (((cell_far (p := ⟨aD, _, none⟩) aG.out _).trans (hHeld.2.1)))))), ((cell_far (p := ⟨aD, _, none⟩) aG.out _).trans (((cell_far (p := ⟨aD, _, none⟩) aG.out _).trans (((cell_far (p := ⟨aD, _, none⟩) aG.out _).trans (hHeld.2.2.1)))))), ((cell_far (p := ⟨aD, _, none⟩) (by first | exact Nat.ne_of_lt (oW hw512_0 aB) | (rw [add_block]; exact Nat.ne_of_lt (oW hw512_0 aB)) | (show (Addr.add _ _).block ≠ _; rw [add_block]; exact Nat.ne_of_lt (oW hw512_0 aB)) | (dsimp only; exact Nat.ne_of_lt (oW hw512_0 aB))) _).trans (((cell_far (p := ⟨aD, _, none⟩) (by first | exact Nat.ne_of_lt (oW hw512_0 aB) | (rw [add_block]; exact Nat.ne_of_lt (oW hw512_0 aB)) | (show (Addr.add _ _).block ≠ _; rw [add_block]; exact Nat.ne_of_lt (oW hw512_0 aB)) | (dsimp only; exact Nat.ne_of_lt (oW hw512_0 aB))) _).trans (((cell_far (p := ⟨aD, _, none⟩) (by first | exact Nat.ne_of_lt (oW hw512_0 aB) | (rw [add_block]; exact Nat.ne_of_lt (oW hw512_0 aB)) | (show (Addr.add _ _).block ≠ _; rw [add_block]; exact Nat.ne_of_lt (oW hw512_0 aB)) | (dsimp only; exact Nat.ne_of_lt (oW hw512_0 aB))) _).trans (hHeld.2.2.2.1)))))), ((cell_far (p := ⟨aD, _, none⟩) (by first | exact Nat.ne_of_lt (oW hw512_1 aB) | (rw [add_block]; exact Nat.ne_of_lt (oW hw512_1 aB)) | (show (Addr.add _ _).block ≠ _; rw [add_block]; exact Nat.ne_of_lt (oW hw512_1 aB)) | (dsimp only; exact Nat.ne_of_lt (oW hw512_1 aB))) _).trans (((cell_far (p := ⟨aD, _, none⟩) (by first | exact Nat.ne_of_lt (oW hw512_1 aB) | (rw [add_block]; exact Nat.ne_of_lt (oW hw512_1 aB)) | (show (Addr.add _ _).block ≠ _; rw [add_block]; exact Nat.ne_of_lt (oW hw512_1 aB)) | (dsimp only; exact Nat.ne_of_lt (oW hw512_1 aB))) _).trans (((cell_far (p := ⟨aD, _, none⟩) (by first | exact Nat.ne_of_lt (oW hw512_1 aB) | (rw [add_block]; exact Nat.ne_of_lt (oW hw512_1 aB)) | (show (Addr.add _ _).block ≠ _; rw [add_block]; exact Nat.ne_of_lt (oW hw512_1 aB)) | (dsimp only; exact Nat.ne_of_lt (oW hw512_1 aB))) _).trans (hHeld.2.2.2.2.1)))))), ((cell_far (p := ⟨aD, _, none⟩) (by first | exact Nat.ne_of_lt (oW hw512_2 aB) | (rw [add_block]; exact Nat.ne_of_lt (oW hw512_2 aB)) | (show (Addr.add _ _).block ≠ _; rw [add_block]; exact Nat.ne_of_lt (oW hw512_2 aB)) | (dsimp only; exact Nat.ne_of_lt (oW hw512_2 aB))) _).trans (((cell_far (p := ⟨aD, _, none⟩) (by first | exact Nat.ne_of_lt (oW hw512_2 aB) | (rw [add_block]; exact Nat.ne_of_lt (oW hw512_2 aB)) | (show (Addr.add _ _).block ≠ _; rw [add_block]; exact Nat.ne_of_lt (oW hw512_2 aB)) | (dsimp only; exact Nat.ne_of_lt (oW hw512_2 aB))) _).trans (((cell_far (p := ⟨aD, _, none⟩) (by first | exact Nat.ne_of_lt (oW hw512_2 aB) | (rw [add_block]; exact Nat.ne_of_lt (oW hw512_2 aB)) | (show (Addr.add _ _).block ≠ _; rw [add_block]; exact Nat.ne_of_lt (oW hw512_2 aB)) | (dsimp only; exact Nat.ne_of_lt (oW hw512_2 aB))) _).trans (hHeld.2.2.2.2.2.1)))))), ((cell_far (p := ⟨aD, _, none⟩) (by first | exact Nat.ne_of_lt (oW hw512_3 aB) | (rw [add_block]; exact Nat.ne_of_lt (oW hw512_3 aB)) | (show (Addr.add _ _).block ≠ _; rw [add_block]; exact Nat.ne_of_lt (oW hw512_3 aB)) | (dsimp only; exact Nat.ne_of_lt (oW hw512_3 aB))) _).trans (((cell_far (p := ⟨aD, _, none⟩) (by first | exact Nat.ne_of_lt (oW hw512_3 aB) | (rw [add_block]; exact Nat.ne_of_lt (oW hw512_3 aB)) | (show (Addr.add _ _).block ≠ _; rw [add_block]; exact Nat.ne_of_lt (oW hw512_3 aB)) | (dsimp only; exact Nat.ne_of_lt (oW hw512_3 aB))) _).trans (((cell_far (p := ⟨aD, _, none⟩) (by first | exact Nat.ne_of_lt (oW hw512_3 aB) | (rw [add_block]; exact Nat.ne_of_lt (oW hw512_3 aB)) | (show (Addr.add _ _).block ≠ _; rw [add_block]; exact Nat.ne_of_lt (oW hw512_3 aB)) | (dsimp only; exact Nat.ne_of_lt (oW hw512_3 aB))) _).trans (hHeld.2.2.2.2.2.2.1)))))), ((cell_far (p := ⟨aD, _, none⟩) (by first | exact Nat.ne_of_lt (oW hw512_4 aB) | (rw [add_block]; exact Nat.ne_of_lt (oW hw512_4 aB)) | (show (Addr.add _ _).block ≠ _; rw [add_block]; exact Nat.ne_of_lt (oW hw512_4 aB)) | (dsimp only; exact Nat.ne_of_lt (oW hw512_4 aB))) _).trans (((cell_far (p := ⟨aD, _, none⟩) (by first | exact Nat.ne_of_lt (oW hw512_4 aB) | (rw [add_block]; exact Nat.ne_of_lt (oW hw512_4 aB)) | (show (Addr.add _ _).block ≠ _; rw [add_block]; exact Nat.ne_of_lt (oW hw512_4 aB)) | (dsimp only; exact Nat.ne_of_lt (oW hw512_4 aB))) _).trans (((cell_far (p := ⟨aD, _, none⟩) (by first | exact Nat.ne_of_lt (oW hw512_4 aB) | (rw [add_block]; exact Nat.ne_of_lt (oW hw512_4 aB)) | (show (Addr.add _ _).block ≠ _; rw [add_block]; exact Nat.ne_of_lt (oW hw512_4 aB)) | (dsimp only; exact Nat.ne_of_lt (oW hw512_4 aB))) _).trans (hHeld.2.2.2.2.2.2.2))))))⟩ (fun hHeld => ?_)
     clear hK K
     refine pure_ (i := 11) (N := some 7) (v := ?_) (a' := ?_) #[true, true, true, true, true, true, true, true, true, true, true, true] rfl rfl (any_of HT_.out oK) (fun _ _ _ h => h) (Or.inl ⟨by rfl, ?_⟩) ?_ ?_
     rotate_left
     ·intro w'
      go_simp
      with_reducible rfl
     rotate_left
     ·exact oT
     refine done_ (done_of HT_.out oK) ?_
     have dD := aP.out
     have dH := aG.out
     have dE := aQ.out
     have dI := aO.out
     have bW : aZ.cell? ⟨aD, 0, none⟩ = some (.int .i64 0) := (blk_cell aN.out 0).trans rfl
     have bX : aZ.cell? ⟨aD, 1, none⟩ = some (.int .i64 0) := (blk_cell aN.out 1).trans rfl
     have bY : aZ.cell? ⟨aD, 2, none⟩ = some (.slice none 0 0) := (blk_cell aN.out 2).trans rfl
     have cI := blk_frozen aN.out 0
     have cJ := blk_frozen aN.out 1
     have cK := blk_frozen aN.out 2
     have dF := bA.out
     have dJ := bB.out
     have bZ : aZ.cell? ⟨aK, 0, none⟩ = some (.int .i64 aH) := (blk_cell aC.out 0).trans rfl
     have cA : aZ.cell? ⟨aK, 1, none⟩ = some (.int .i64 aI) := (blk_cell aC.out 1).trans rfl
     have cB : aZ.cell? ⟨aK, 2, none⟩ = some (.slice bL aF.length bM) := (blk_cell aC.out 2).trans rfl
     have cL := blk_frozen aC.out 0
     have cM := blk_frozen aC.out 1
     have cN := blk_frozen aC.out 2
     try go_wp2
     go_roundg k1
     case measure => have := HK1.out; omega
     case rel => exact ⟨(wrap64 (aE + 1)), (bC), (bD), (bE), (.slice bN bE.length bO), oU, H', ⟨(by have := HK1.out; omega)⟩, ⟨Kd.V_mono (ok := fun k_ => w.heap.size ≤ k_ ∧ k_ ≠ aK ∧ k_ ≠ aM) (Kd.R_V (by (with_reducible repeat (first | apply Kd.R_alloc | apply Kd.R_drewN | apply Kd.R_drew)); exact Kd.R_mono (Kd.R_far (p := ⟨aK, 2, none⟩) (Kd.R_far (p := ⟨aK, 1, none⟩) (Kd.R_far (p := ⟨aK, 0, none⟩) (Kd.R_far (p := ⟨aD, 2, none⟩) (Kd.R_far (p := ⟨aD, 1, none⟩) (Kd.R_far (p := ⟨aD, 0, none⟩) (Kd.R_types (Kd.R_types (Kd.R_types (Kd.R_types aR.out aC.out oD) aJ.out oD) aN.out oD) aC.out oD) (fun _ hk => hk.1.2) (.int .i64 bC)) (fun _ hk => hk.1.2) (.int .i64 bD)) (fun _ hk => hk.1.2) (.slice bN bE.length bO)) (fun _ hk => hk.2) (.int .i64 bC)) (fun _ hk => hk.2) (.int .i64 bD)) (fun _ hk => hk.2) (.slice bN bE.length bO)) (fun _ hk => ⟨hk.1.1.1.1, ⟨hk.1.1.1.2, hk.1.1.2⟩⟩))) (fun k_ hk => by first | exact ⟨(.inr (hk.1)), hk.2⟩ | exact (.inr (hk)))⟩, ⟨(blk_put (blk_put (blk_put (oP aC) 0 _ rfl) 1 _ rfl) 2 _ rfl)⟩, ⟨(oP aJ)⟩, ⟨(oB HB)⟩⟩
    ·rw [if_neg c6] at H
     exact absurd H (by simp)
   ·rw [if_neg c5] at H
    have cU : decide (aE < (l1.length : Int)) = false := decide_eq_false c5
    clear c5
    simp only [Option.some.injEq, Prod.mk.injEq] at H
    obtain ⟨rfl, rfl, rfl⟩ := H
    have dG := bA.out
    have dK := bB.out
    have cC : wr.cell? ⟨aK, 0, none⟩ = some (.int .i64 aH) := (blk_cell aC.out 0).trans rfl
    have cD : wr.cell? ⟨aK, 1, none⟩ = some (.int .i64 aI) := (blk_cell aC.out 1).trans rfl
    have cE : wr.cell? ⟨aK, 2, none⟩ = some (aX) := (blk_cell aC.out 2).trans rfl
    have cO := blk_frozen aC.out 0
    have cP := blk_frozen aC.out 1
    have cQ := blk_frozen aC.out 2
    have cF : wr.cell? ⟨aM, 0, none⟩ = some (.int .i64 0) := (blk_cell aJ.out 0).trans rfl
    have cG : wr.cell? ⟨aM, 1, none⟩ = some (.int .i64 0) := (blk_cell aJ.out 1).trans rfl
    have cH : wr.cell? ⟨aM, 2, none⟩ = some (.slice none 0 0) := (blk_cell aJ.out 2).trans rfl
    have cR := blk_frozen aJ.out 0
    have cS := blk_frozen aJ.out 1
    have cT := blk_frozen aJ.out 2
    obtain ⟨bR, bS, cW⟩ := Kd.V_slice aA.out
    subst cW
    go_wp2
    refine bodyPost_ret (results_cell_row rfl _ _ aM 25 #[.int .i64 aH, .int .i64 aI, .slice bR aF.length bS] (0, 0) _ rfl (blk_put (blk_put (blk_put aJ.out 0 _ rfl) 1 _ rfl) 2 _ rfl) Try.underlying25 rfl oK) rfl ?_
    exact ⟨_, by first | rfl | (simp [errW_none, errW_some] <;> rfl) | (simp [*, errW_none, errW_some] <;> rfl), by (with_reducible repeat (first | apply Kd.V_alloc | apply Kd.V_drewN | apply Kd.V_drew)); exact Kd.V_mono (Kd.V_far (p := ⟨aM, 2, none⟩) (Kd.V_far (p := ⟨aM, 1, none⟩) (Kd.V_far (p := ⟨aM, 0, none⟩) (Kd.V_mono aA.out (fun k_ hk => (⟨hk, hk.2.2⟩ : _ ∧ k_ ≠ aM))) (fun _ hk => hk.2) (.int .i64 aH)) (fun _ hk => hk.2) (.int .i64 aI)) (fun _ hk => hk.2) (.slice bR aF.length bS)) (fun _ hk => hk.1.1), oB HB⟩

end Go.Proofs.Ythnmeogafklhnaa.X
