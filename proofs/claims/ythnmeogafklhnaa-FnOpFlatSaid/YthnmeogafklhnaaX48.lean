/- Functions of the given program as plain Lean functions, and for each the proof that the machine's call comes to what its function says. No condition but what each theorem states. Written by a program of this session. -/
import Derived.Test.YthnmeogafklhnaaX0
import Derived.Test.YthnmeogafklhnaaX28
namespace Go.Proofs.Ythnmeogafklhnaa.X
open Go.RowKit Go.Proofs.YthnmeogafklhnaaW.PrintWords Go.Proofs.YthnmeogafklhnaaW.PrintLast Go.Proofs.YthnmeogafklhnaaW.PrintMore Go.Proofs.Ythnmeogafklhnaa.Hyb
attribute [local go_sem] max2_int min2_int max_two min_two max_three min_three max_four min_four   -- for this text's walks alone
set_option linter.unusedVariables false
set_option linter.unusedSimpArgs false

/-! ### laws_eaDo: function 27 -/
def laws_eaDo.l0 : Nat → List (S27) → Int → Int → Int → List (S38) → Option (Int × Int × (List (S38)))
 | 0, _, _, _, _, _ => none
 | k + 1, x1, x5, x511000, x511001, x511002 => if x5 < (x1.length : Int) then (if 0 ≤ x5 then ((impl_OpDo.f k x511000 x511001 x511002 ((rd_T27 x1 x5).f0) ((rd_T27 x1 x5).f1) ((rd_T27 x1 x5).f2) ((rd_T27 x1 x5).f3) ((rd_T27 x1 x5).f4)).bind fun bt513 => (laws_eaDo.l0 k x1 (wrap64 (x5 + 1)) bt513.1 bt513.2.1 bt513.2.2.1)) else (none)) else (some (x511000, x511001, x511002))
def laws_eaDo.f (k : Nat) (a0_0 : Int) (a0_1 : Int) (l0_2 : List (S38)) (l1 : List (S27)) : Option (Int × Int × (List (S38))) := laws_eaDo.l0 k l1 0 a0_0 a0_1 l0_2
theorem laws_eaDo.mono_l : ∀ k, (∀ y0 y1 y2 y3 y4, LeO (laws_eaDo.l0 k y0 y1 y2 y3 y4) (laws_eaDo.l0 (k + 1) y0 y1 y2 y3 y4))
 | 0 => (fun _ _ _ _ _ r h => nomatch (show none = some r from h))
 | k + 1 => by
  have ih0 := laws_eaDo.mono_l k
  ·intro y0 y1 y2 y3 y4
   unfold laws_eaDo.l0
   repeat' first
   | (with_reducible exact ih0 _ _ _ _ _)
   | (with_reducible exact impl_OpDo.mono _ _ _ _ _ _ _ _ _)
   | (with_reducible exact LeO.refl _)
   | (with_reducible exact LeO.none _)
   | (with_reducible refine LeO.ite ?_ ?_)
   | (with_reducible refine LeO.bind ?_ (fun _ => ?_))
   | exact ih0 _ _ _ _ _
   | exact impl_OpDo.mono _ _ _ _ _ _ _ _ _
   | exact LeO.none _
   | refine LeO.ite ?_ ?_
   | refine LeO.bind ?_ (fun _ => ?_)
theorem laws_eaDo.mono : ∀ a0 a1 a2 a3 k, LeO (laws_eaDo.f k a0 a1 a2 a3) (laws_eaDo.f (k + 1) a0 a1 a2 a3) := by
 intro a0 a1 a2 a3 k
 have ih0 := laws_eaDo.mono_l k
 unfold laws_eaDo.f
 repeat' first
   | (with_reducible exact ih0 _ _ _ _ _)
   | (with_reducible exact impl_OpDo.mono _ _ _ _ _ _ _ _ _)
   | (with_reducible exact LeO.refl _)
   | (with_reducible exact LeO.none _)
   | (with_reducible refine LeO.ite ?_ ?_)
   | (with_reducible refine LeO.bind ?_ (fun _ => ?_))
   | exact ih0 _ _ _ _ _
   | exact impl_OpDo.mono _ _ _ _ _ _ _ _ _
   | exact LeO.none _
   | refine LeO.ite ?_ ?_
   | refine LeO.bind ?_ (fun _ => ?_)
def laws_eaDo.T4 : Bool × List (List Nat × List Nat) := (true, [([], []), ([], []), ([], []), ([1, 2], [1, 2]), ([3], [3]), ([0, 4], [0, 4]), ([5], [5]), ([6], [6]), ([6], [6]), ([], []), ([9, 7, 5, 0, 1, 2, 3, 4, 5, 6, 7, 9], [7, 9]), ([8, 10, 0, 1, 2, 3, 4, 5, 6, 7, 8, 9, 10], [8])])
def laws_eaDo.B4 : List Nat := [0, 0, 0, 6, 14, 31, 63, 127, 127, 0, 767, 2047]
theorem laws_eaDo.tab4 : rtab .any (opsOf Try.f27 4) = laws_eaDo.T4 := by kernel_rfl
theorem laws_eaDo.bits4 : waitsOk laws_eaDo.T4.2 laws_eaDo.B4 = true := by kernel_rfl
set_option maxHeartbeats 8000000 in
set_option maxRecDepth 100000 in
theorem laws_eaDo.calls (k : Nat) (a0_0 : Int) (a0_1 : Int) (P0_2_ : Nat → Prop) (A0_2 : Option Addr) (c0_2 : Nat) (l0_2 : List (S38)) (A1 : Option Addr) (c1 : Nat) (l1 : List (S27)) (r1 : Int) (r2 : Int) (r3 : List (S38)) (w : World) (hs0_2 : Kd.V k38 38 w w.heap.size (fun k_ => P0_2_ k_) (.slice A0_2 l0_2.length c0_2) l0_2) (hr1 : Kd.C k27 w A1 l1.length l1) (hc1 : l1.length ≤ c1) (h : laws_eaDo.f k a0_0 a0_1 l0_2 l1 = some (r1, r2, r3)) :
  Calls Try.prog 27 #[.agg #[.int .i64 a0_0, .int .i64 a0_1, .slice A0_2 l0_2.length c0_2], .slice A1 l1.length c1] w fun e w' => ∃ v2_ : Value, e = .returned (.agg #[.int .i64 r1, .int .i64 r2, v2_]) ∧ Kd.V k38 38 w' w.heap.size (fun k_ => (P0_2_ k_ ∨ w.heap.size ≤ k_)) v2_ r3 ∧ Below w.heap.size w w' := by
 have hu25 := Try.underlying25
 have hu27 := Try.underlying27
 have HO0_2 := Aside0.mk (show Kd.V k38 38 w w.heap.size (fun k_ => (P0_2_ k_ ∨ w.heap.size ≤ k_)) (.slice A0_2 l0_2.length c0_2) l0_2 from Kd.V_mono hs0_2 (fun k_ hk => .inl hk))
 have HR1 := Aside0.mk hr1
 have HC1 := Aside0.mk hc1
 clear hr1 hc1
 have HB := Aside0.mk (Below.refl w.heap.size w)
 have H : (laws_eaDo.l0 k l1 0 a0_0 a0_1 l0_2) = some (r1, r2, r3) := h
 clear h
 have H' := Aside0.mk H
 clear H
 go_enter Try.func27, Try.ntmps27
 go_wp2_with (first | ((with_reducible refine gate_dst (N := 2) rfl ?_); refine box_event ?hg (N := 2) ?hd (cs := #[.int .i64 a0_0, .int .i64 a0_1, .slice A0_2 l0_2.length c0_2]) (t := 25) ?hr ?_; (case hd => rfl); (case hg => rfl); (case hr => first | (go_simp; done) | (go_simp; rfl)); intro gb510 hg w3 hbox hb; have n_ := o2_ (Kd.V_below (Kd.V_elderB (oV HO0_2) gb510 (Nat.le_of_eq hg.symm)) hb) (o2_ (below_step (oB HB) hb) (o2_ (hbox) (o2_ ((oG hg (below_size (oB HB)) : w.heap.size ≤ gb510)) (o1_ ((oG hg (below_size (oB HB)) : w.heap.size ≤ gb510)))))); clear HO0_2 HB; obtain ⟨HO0_2, HB, BK510, GW510, GE510⟩ := n_; clear hb hbox hg) | ((with_reducible refine gate_dst (N := 4) rfl ?_); refine box_event ?hg (N := 4) ?hd (cs := #[.int .i64 0, .int .i64 0, .slice none 0 0]) (t := 25) ?hr ?_; (case hd => rfl); (case hg => rfl); (case hr => first | (go_simp; done) | (go_simp; rfl)); intro gb511 hg w4 hbox hb; have n_ := o2_ (Kd.V_below (Kd.V_elderB (oV HO0_2) gb511 (Nat.le_of_eq hg.symm)) hb) (o2_ (blk_below (oP BK510) hb) (o2_ (below_step (oB HB) hb) (o2_ (hbox) (o2_ ((oG hg (below_size (oB HB)) : w.heap.size ≤ gb511)) (o2_ ((oG hg (below_size (oB HB)) : w.heap.size ≤ gb511)) (o2_ ((oL hg (blk_lt (oP BK510)))) (o1_ ((oN hg (blk_lt (oP BK510))))))))))); clear HO0_2 BK510 HB; obtain ⟨HO0_2, BK510, HB, BK511, GW511, GE511, NB510_511, NB511_510⟩ := n_; clear hb hbox hg))
 go_loopg [5] k (fun kq v5 w' => ∃ (x5_1 : Int) (x511000_1 : Int) (x511001_1 : Int) (x511002_1 : List (S38)) (u511002 : Value), v5 = .int .i64 x5_1 ∧ Aside0 (laws_eaDo.l0 kq l1 x5_1 x511000_1 x511001_1 x511002_1 = some (r1, r2, r3)) ∧ Aside0 (kq ≤ k) ∧ Aside0 (Kd.V k38 38 w' w.heap.size (fun k_ => (P0_2_ k_ ∨ w.heap.size ≤ k_) ∧ k_ ≠ gb510 ∧ k_ ≠ gb511) u511002 x511002_1) ∧ Aside0 (w'.heap[gb510]? = some (.cells #[.int .i64 x511000_1, .int .i64 x511001_1, u511002] 25 (0, 0))) ∧ Aside0 (w'.heap[gb511]? = some (.cells #[.int .i64 0, .int .i64 0, (.slice none 0 0)] 25 (0, 0))) ∧ Aside0 (Below w.heap.size w w'))
 case atStart => exact ⟨(0), (a0_0), (a0_1), (l0_2), (.slice A0_2 l0_2.length c0_2), (by first | rfl | (simp; done) | (simp [*]; done)), H', ⟨Nat.le_refl _⟩, ⟨(by (with_reducible repeat (first | apply Kd.V_alloc | apply Kd.V_drewN | apply Kd.V_drew)); exact Kd.V_mono HO0_2.out (fun _ hk => ⟨hk.1.1, ⟨hk.1.2, hk.2⟩⟩))⟩, ⟨(oP BK510)⟩, ⟨(oP BK511)⟩, ⟨(oB HB)⟩⟩
 case round =>
  clear H'
  try clear c1
  try clear c2
  try clear p2
  obtain ⟨x5_1, x511000_1, x511001_1, x511002_1, u511002, rfl, HA, HK1, HO_511002, BK510, BK511, HB⟩ := hrel
  cases gk with
  | zero => exact nomatch (show none = some _ from HA.out)
  | succ k1 =>
   have H := HA.out
   clear HA
   simp only [laws_eaDo.l0] at H
   by_cases c5 : x5_1 < (l1.length : Int)
   ·rw [if_pos c5] at H
    have c5b0 : decide (x5_1 < (l1.length : Int)) = true := decide_eq_true c5
    clear c5
    by_cases c6 : 0 ≤ x5_1
    ·rw [if_pos c6] at H
     have c6b0 : decide (0 ≤ x5_1) = true := decide_eq_true c6
     clear c6
     replace H := Option.bind_eq_some_iff.mp H
     obtain ⟨⟨t513, t514, t515, t518⟩, A70, H⟩ := H
     (try dsimp only at H)
     have A7 := Aside0.mk A70
     clear A70
     have H' := Aside0.mk H
     clear H
     obtain ⟨Ao8, co8, eo8⟩ := Kd.V_slice HO_511002.out
     subst eo8
     try go_wp2
     have n_ := o2_ (Kd.V_drew HO_511002.out) (o2_ (blk_drew BK510.out) (o2_ (blk_drew BK511.out) (o1_ (below_drew1 HB.out))))
     clear HO_511002 BK510 BK511 HB
     obtain ⟨HO_511002, BK510, BK511, HB⟩ := n_
     have p512 : 0 ≤ (x5_1 : Int) := of_decide_eq_true oM
     have q512 : x5_1 < (l1.length : Int) := of_decide_eq_true oM
     obtain ⟨ad512, e512, hx512_0, hx512_1, hx512_2, hx512_3, hx512_4⟩ := at_T27 HR1.out x5_1 p512 q512
     have hw512_4 := hx512_4
     have hw512_3 := hx512_3
     have hw512_2 := hx512_2
     have hw512_1 := hx512_1
     have hw512_0 := hx512_0
     cases e512
     replace hx512_0 := (HB.out.cell (World.block_lt_of_cell? w _ hx512_0)).trans hx512_0
     replace hx512_1 := (HB.out.cell (World.block_lt_of_cell? w _ hx512_1)).trans hx512_1
     replace hx512_2 := (HB.out.cell (World.block_lt_of_cell? w _ hx512_2)).trans hx512_2
     replace hx512_3 := (HB.out.cell (World.block_lt_of_cell? w _ hx512_3)).trans hx512_3
     replace hx512_4 := (HB.out.cell (World.block_lt_of_cell? w _ hx512_4)).trans hx512_4
     replace p512 := eq_true p512
     replace q512 := eq_true q512
     refine start_ (n := 12) (S := fun w' => w'.cell? ⟨gb510, 0, none⟩ = some (.int .i64 x511000_1) ∧ w'.cell? ⟨gb510, 1, none⟩ = some (.int .i64 x511001_1) ∧ w'.cell? ⟨gb510, 2, none⟩ = some (.slice Ao8 x511002_1.length co8) ∧ w'.cell? (ad512.add ((x5_1).toNat * 5)) = some (.int .i64 ((rd_T27 l1 x5_1).f0)) ∧ w'.cell? ⟨(ad512.add ((x5_1).toNat * 5)).block, (ad512.add ((x5_1).toNat * 5)).off + 1, none⟩ = some (.int .i64 ((rd_T27 l1 x5_1).f1)) ∧ w'.cell? ⟨(ad512.add ((x5_1).toNat * 5)).block, (ad512.add ((x5_1).toNat * 5)).off + 2, none⟩ = some (.int .i64 ((rd_T27 l1 x5_1).f2)) ∧ w'.cell? ⟨(ad512.add ((x5_1).toNat * 5)).block, (ad512.add ((x5_1).toNat * 5)).off + 3, none⟩ = some (.int .i64 ((rd_T27 l1 x5_1).f3)) ∧ w'.cell? ⟨(ad512.add ((x5_1).toNat * 5)).block, (ad512.add ((x5_1).toNat * 5)).off + 4, none⟩ = some (.int .i64 ((rd_T27 l1 x5_1).f4))) (ds := []) #[false, false, false, false, false, false, false, false, false, false, false, false] oK rfl rfl ⟨(blk_cell BK510.out 0).trans rfl, (blk_cell BK510.out 1).trans rfl, (blk_cell BK510.out 2).trans rfl, ((HB.out.cell (World.block_lt_of_cell? w _ hw512_0)).trans hw512_0), ((HB.out.cell (World.block_lt_of_cell? w _ hw512_1)).trans hw512_1), ((HB.out.cell (World.block_lt_of_cell? w _ hw512_2)).trans hw512_2), ((HB.out.cell (World.block_lt_of_cell? w _ hw512_3)).trans hw512_3), ((HB.out.cell (World.block_lt_of_cell? w _ hw512_4)).trans hw512_4)⟩ (fun hHeld => ?_); refine with_tabW laws_eaDo.tab4 laws_eaDo.bits4 (fun HT_ HW_ => ?_)
     generalize wr.drew = w9 at HO_511002 BK510 BK511 HB hx512_0 hx512_1 hx512_2 hx512_3 hx512_4 hHeld ⊢
     refine pure_ (i := 1) (N := some 16) (v := ?_) (a' := ?_) #[false, true, false, false, false, false, false, false, false, false, false, false] rfl rfl (any_of HT_.out oK) (fun _ _ _ h => h) (Or.inl ⟨by rfl, ?_⟩) ?_ ?_
     rotate_left
     ·intro w'
      go_simp
      with_reducible rfl
     rotate_left
     ·simp only [Act.put, List.setIfInBounds_toArray, List.set_cons_zero, List.set_cons_succ, i64_w, i32_w]
      rfl
     refine pure_ (i := 2) (N := some 17) (v := ?_) (a' := ?_) #[false, true, true, false, false, false, false, false, false, false, false, false] rfl rfl (any_of HT_.out oK) (fun _ _ _ h => h) (Or.inl ⟨by rfl, ?_⟩) ?_ ?_
     rotate_left
     ·intro w'
      go_simp
      with_reducible rfl
     rotate_left
     ·simp only [Act.put, List.setIfInBounds_toArray, List.set_cons_zero, List.set_cons_succ, i64_w, i32_w]
      rfl
     refine pure_ (i := 3) (N := some 18) (v := ?_) (a' := ?_) #[false, true, true, true, false, false, false, false, false, false, false, false] rfl rfl (any_of HT_.out oK) (fun _ _ _ h => h) (Or.inl ⟨by rfl, ?_⟩) ?_ ?_
     rotate_left
     ·intro w'
      go_simp
      with_reducible rfl
     rotate_left
     ·simp only [Act.put, List.setIfInBounds_toArray, List.set_cons_zero, List.set_cons_succ, i64_w, i32_w]
      rfl
     refine take_ (i := 0) (N := some 15) (v := ?_) (a' := ?_) #[true, true, true, true, false, false, false, false, false, false, false, false] rfl rfl (take_ofW HT_.out HW_.out oK) (fun _ _ _ h => h) (Or.inl ⟨by rfl, ?_⟩) hHeld ?_ ?_
     rotate_left
     ·rintro w' ⟨s0, s1, s2, s3, s4, s5, s6, s7⟩
      go_simp
      with_reducible rfl
     rotate_left
     ·simp only [Act.put, List.setIfInBounds_toArray, List.set_cons_zero, List.set_cons_succ, i64_w, i32_w]
      rfl
     refine take_ (i := 4) (N := some 19) (v := ?_) (a' := ?_) #[true, true, true, true, true, false, false, false, false, false, false, false] rfl rfl (take_ofW HT_.out HW_.out oK) (fun _ _ _ h => h) (Or.inl ⟨by rfl, ?_⟩) hHeld ?_ ?_
     rotate_left
     ·rintro w' ⟨s0, s1, s2, s3, s4, s5, s6, s7⟩
      go_simp
      with_reducible rfl
     rotate_left
     ·simp only [Act.put, List.setIfInBounds_toArray, List.set_cons_zero, List.set_cons_succ, i64_w, i32_w]
      rfl
     refine join_ (σ := Value × Nat) 2 #[true, true, true, true, true, true, true, true, true, true, false, false] (fun s_ => [(20, .tuple #[.agg #[.int .i64 t513, .int .i64 t514, s_.1], .bool t518]), (6, .pointer (some ⟨s_.2, 0, none⟩)), (14, .tuple #[.agg #[.int .i64 t513, .int .i64 t514, s_.1], .bool t518]), (21, .agg #[.int .i64 t513, .int .i64 t514, s_.1]), (22, .bool t518)]) (fun s_ w' => (w'.cell? ⟨gb510, 0, none⟩ = some (.int .i64 x511000_1) ∧ w'.cell? ⟨gb510, 1, none⟩ = some (.int .i64 x511001_1) ∧ w'.cell? ⟨gb510, 2, none⟩ = some (.slice Ao8 x511002_1.length co8) ∧ w'.cell? (ad512.add ((x5_1).toNat * 5)) = some (.int .i64 ((rd_T27 l1 x5_1).f0)) ∧ w'.cell? ⟨(ad512.add ((x5_1).toNat * 5)).block, (ad512.add ((x5_1).toNat * 5)).off + 1, none⟩ = some (.int .i64 ((rd_T27 l1 x5_1).f1)) ∧ w'.cell? ⟨(ad512.add ((x5_1).toNat * 5)).block, (ad512.add ((x5_1).toNat * 5)).off + 2, none⟩ = some (.int .i64 ((rd_T27 l1 x5_1).f2)) ∧ w'.cell? ⟨(ad512.add ((x5_1).toNat * 5)).block, (ad512.add ((x5_1).toNat * 5)).off + 3, none⟩ = some (.int .i64 ((rd_T27 l1 x5_1).f3)) ∧ w'.cell? ⟨(ad512.add ((x5_1).toNat * 5)).block, (ad512.add ((x5_1).toNat * 5)).off + 4, none⟩ = some (.int .i64 ((rd_T27 l1 x5_1).f4))) ∧ (Kd.R k38 38 w' w.heap.size (fun k_ => (w.heap.size ≤ k_)) s_.1 t515) ∧ (Kd.V k38 38 w' w.heap.size (fun k_ => (P0_2_ k_ ∨ w.heap.size ≤ k_) ∧ some k_ ≠ (s_.1 : Value).ownBlock ∧ k_ ≠ gb510 ∧ k_ ≠ gb511 ∧ k_ ≠ s_.2) (.slice Ao8 x511002_1.length co8) x511002_1) ∧ (w'.heap[gb510]? = some (.cells #[.int .i64 x511000_1, .int .i64 x511001_1, .slice Ao8 x511002_1.length co8] 25 (0, 0))) ∧ (w'.heap[gb511]? = some (.cells #[.int .i64 0, .int .i64 0, .slice none 0 0] 25 (0, 0))) ∧ (w'.heap[s_.2]? = some (.cells #[.int .i64 0, .int .i64 0, .slice none 0 0] 25 (0, 0))) ∧ (w.heap.size ≤ s_.2) ∧ (w.heap.size ≤ s_.2) ∧ (gb510 ≠ s_.2) ∧ (s_.2 ≠ gb510) ∧ (gb511 ≠ s_.2) ∧ (s_.2 ≠ gb511) ∧ (Below w.heap.size w w')) ?_ ?_
     rotate_left
     ·intro hCont
      refine two_ (i := 5) (j := 9) (Ni := some 20) (Nj := some 6) #[true, true, true, true, true, true, false, false, false, false, false, false] #[true, true, true, true, true, false, false, false, false, true, false, false] rfl rfl rfl rfl (two_of HT_.out oK) oD oD (fun K hK => ?_) (fun K hK => ?_)
      ·skip
       refine goes_ Try.func19 oK rfl #[.agg #[.int .i64 x511000_1, .int .i64 x511001_1, .slice Ao8 x511002_1.length co8], .agg #[.int .i64 ((rd_T27 l1 x5_1).f0), .int .i64 ((rd_T27 l1 x5_1).f1), .int .i64 ((rd_T27 l1 x5_1).f2), .int .i64 ((rd_T27 l1 x5_1).f3), .int .i64 ((rd_T27 l1 x5_1).f4)]] (by rfl) rfl rfl oA ?_
       with_reducible refine (impl_OpDo.calls k1 x511000_1 x511001_1 _ _ x511002_1 ((rd_T27 l1 x5_1).f0) ((rd_T27 l1 x5_1).f1) ((rd_T27 l1 x5_1).f2) ((rd_T27 l1 x5_1).f3) ((rd_T27 l1 x5_1).f4) t513 t514 t515 t518 _ ?side1 ?side2 A7.out).mono ?_
       (case side1 => repeat (first | exact (Kd.V_reads' HO_511002.out).2.2 | (with_reducible refine Kd.C_alloc ?_ _) | (with_reducible refine Kd.C_drewN ?_ _) | (with_reducible refine Kd.C_drew ?_)))
       (case side2 => exact (Kd.V_reads' HO_511002.out).2.1)
       rintro e w10 ⟨v516, rfl, ho0, hb⟩
       refine ⟨_, rfl, ?_⟩
       have n_ := o2_ (Kd.V_elder' (oV HO_511002) (Kd.R_base ho0) hb) (o2_ (Kd.R_lower (Kd.R_newM (M := fun k_ => (w.heap.size ≤ k_)) ho0 (below_size (oB HB)) (fun k_ h_ => h_)) (below_size (oB HB))) (o2_ (blk_below (oP BK510) hb) (o2_ (blk_below (oP BK511) hb) (o1_ (below_step (oB HB) hb)))))
       clear HO_511002 BK510 BK511 HB
       obtain ⟨HO_511002, HO517, BK510, BK511, HB⟩ := n_
       (try clear hb)
       (try clear hb2)
       (try clear hk)
       (try clear hi)
       (try clear ho0)
       refine hK.out _ _ ⟨(blk_cell BK510.out 0).trans rfl, (blk_cell BK510.out 1).trans rfl, (blk_cell BK510.out 2).trans rfl, ((HB.out.cell (World.block_lt_of_cell? w _ hw512_0)).trans hw512_0), ((HB.out.cell (World.block_lt_of_cell? w _ hw512_1)).trans hw512_1), ((HB.out.cell (World.block_lt_of_cell? w _ hw512_2)).trans hw512_2), ((HB.out.cell (World.block_lt_of_cell? w _ hw512_3)).trans hw512_3), ((HB.out.cell (World.block_lt_of_cell? w _ hw512_4)).trans hw512_4)⟩ (fun hHeld => ?_)
       clear hK K
       refine norm_ (a' := ?_) ?_ ?_
       rotate_left
       ·show Act.put _ (some 20) _ = _
        simp only [Act.put, List.setIfInBounds_toArray, List.set_cons_zero, List.set_cons_succ, i64_w, i32_w]
        rfl
       refine pure_ (i := 6) (N := some 14) (v := ?_) (a' := ?_) #[true, true, true, true, true, true, true, false, false, false, false, false] rfl rfl (any_of HT_.out oK) (fun _ _ _ h => h) (Or.inl ⟨by rfl, ?_⟩) ?_ ?_
       rotate_left
       ·intro w'
        go_simp
        with_reducible rfl
       rotate_left
       ·simp only [Act.put, List.setIfInBounds_toArray, List.set_cons_zero, List.set_cons_succ, i64_w, i32_w]
        rfl
       refine pure_ (i := 7) (N := some 21) (v := ?_) (a' := ?_) #[true, true, true, true, true, true, true, true, false, false, false, false] rfl rfl (any_of HT_.out oK) (fun _ _ _ h => h) (Or.inl ⟨by rfl, ?_⟩) ?_ ?_
       rotate_left
       ·intro w'
        go_simp
        with_reducible rfl
       rotate_left
       ·simp only [Act.put, List.setIfInBounds_toArray, List.set_cons_zero, List.set_cons_succ, i64_w, i32_w]
        rfl
       refine pure_ (i := 8) (N := some 22) (v := ?_) (a' := ?_) #[true, true, true, true, true, true, true, true, true, false, false, false] rfl rfl (any_of HT_.out oK) (fun _ _ _ h => h) (Or.inl ⟨by rfl, ?_⟩) ?_ ?_
       rotate_left
       ·intro w'
        go_simp
        with_reducible rfl
       rotate_left
       ·simp only [Act.put, List.setIfInBounds_toArray, List.set_cons_zero, List.set_cons_succ, i64_w, i32_w]
        rfl
       refine one_ (i := 9) (N := some 6) #[true, true, true, true, true, true, true, true, true, true, false, false] rfl rfl (one_of HT_.out oK) oD (fun K hK => ?_)
       refine box_step ?hg (N := 6) ?hd (cs := #[.int .i64 0, .int .i64 0, .slice none 0 0]) (t := 25) ?hr ?_; (case hd => rfl); (case hg => rfl); (case hr => first | (go_simp; done) | (go_simp; rfl))
       intro gb519 hg w11 hbox hb
       have n_ := o2_ (Kd.V_below (Kd.V_elderB (oV HO_511002) gb519 (Nat.le_of_eq hg.symm)) hb) (o2_ (Kd.R_below (oR HO517) hb) (o2_ (blk_below (oP BK510) hb) (o2_ (blk_below (oP BK511) hb) (o2_ (below_step (oB HB) hb) (o2_ (hbox) (o2_ ((oG hg (below_size (oB HB)) : w.heap.size ≤ gb519)) (o2_ ((oG hg (below_size (oB HB)) : w.heap.size ≤ gb519)) (o2_ ((oL hg (blk_lt (oP BK510)))) (o2_ ((oN hg (blk_lt (oP BK510)))) (o2_ ((oL hg (blk_lt (oP BK511)))) (o1_ ((oN hg (blk_lt (oP BK511)))))))))))))))
       clear HO_511002 HO517 BK510 BK511 HB
       obtain ⟨HO_511002, HO517, BK510, BK511, HB, BK519, GW519, GE519, NB510_519, NB519_510, NB511_519, NB519_511⟩ := n_
       clear hb hbox hg
       refine hK.out _ _ ⟨(blk_cell BK510.out 0).trans rfl, (blk_cell BK510.out 1).trans rfl, (blk_cell BK510.out 2).trans rfl, ((HB.out.cell (World.block_lt_of_cell? w _ hw512_0)).trans hw512_0), ((HB.out.cell (World.block_lt_of_cell? w _ hw512_1)).trans hw512_1), ((HB.out.cell (World.block_lt_of_cell? w _ hw512_2)).trans hw512_2), ((HB.out.cell (World.block_lt_of_cell? w _ hw512_3)).trans hw512_3), ((HB.out.cell (World.block_lt_of_cell? w _ hw512_4)).trans hw512_4)⟩ (fun hHeld => ?_)
       clear hK K
       refine norm_ (a' := ?_) ?_ ?_
       rotate_left
       ·show Act.put _ (some 6) _ = _
        simp only [Act.put, List.setIfInBounds_toArray, List.set_cons_zero, List.set_cons_succ, i64_w, i32_w]
        rfl
       exact norm_ (by simp only [putAll, Act.put, List.setIfInBounds_toArray, List.set_cons_zero, List.set_cons_succ]) (hCont (v516, gb519) _ ⟨hHeld, (by (with_reducible repeat (first | apply Kd.R_alloc | apply Kd.R_drewN | apply Kd.R_drew)); exact Kd.R_mono HO517.out (fun _ hk => hk.1)), (by (with_reducible repeat (first | apply Kd.V_alloc | apply Kd.V_drewN | apply Kd.V_drew)); exact Kd.V_mono HO_511002.out (fun _ hk => ⟨hk.1.1.1, ⟨hk.1.2, ⟨hk.1.1.2.1, ⟨hk.1.1.2.2, hk.2⟩⟩⟩⟩)), (oP BK510), (oP BK511), (oP BK519), GW519.out, GE519.out, NB510_519.out, NB519_510.out, NB511_519.out, NB519_511.out, (oB HB)⟩)
      ·skip
       refine box_step ?hg (N := 6) ?hd (cs := #[.int .i64 0, .int .i64 0, .slice none 0 0]) (t := 25) ?hr ?_; (case hd => rfl); (case hg => rfl); (case hr => first | (go_simp; done) | (go_simp; rfl))
       intro gb519 hg w10 hbox hb
       have n_ := o2_ (Kd.V_below (Kd.V_elderB (oV HO_511002) gb519 (Nat.le_of_eq hg.symm)) hb) (o2_ (blk_below (oP BK510) hb) (o2_ (blk_below (oP BK511) hb) (o2_ (below_step (oB HB) hb) (o2_ (hbox) (o2_ ((oG hg (below_size (oB HB)) : w.heap.size ≤ gb519)) (o2_ ((oG hg (below_size (oB HB)) : w.heap.size ≤ gb519)) (o2_ ((oL hg (blk_lt (oP BK510)))) (o2_ ((oN hg (blk_lt (oP BK510)))) (o2_ ((oL hg (blk_lt (oP BK511)))) (o1_ ((oN hg (blk_lt (oP BK511))))))))))))))
       clear HO_511002 BK510 BK511 HB
       obtain ⟨HO_511002, BK510, BK511, HB, BK519, GW519, GE519, NB510_519, NB519_510, NB511_519, NB519_511⟩ := n_
       clear hb hbox hg
       refine hK.out _ _ ⟨(blk_cell BK510.out 0).trans rfl, (blk_cell BK510.out 1).trans rfl, (blk_cell BK510.out 2).trans rfl, ((HB.out.cell (World.block_lt_of_cell? w _ hw512_0)).trans hw512_0), ((HB.out.cell (World.block_lt_of_cell? w _ hw512_1)).trans hw512_1), ((HB.out.cell (World.block_lt_of_cell? w _ hw512_2)).trans hw512_2), ((HB.out.cell (World.block_lt_of_cell? w _ hw512_3)).trans hw512_3), ((HB.out.cell (World.block_lt_of_cell? w _ hw512_4)).trans hw512_4)⟩ (fun hHeld => ?_)
       clear hK K
       refine norm_ (a' := ?_) ?_ ?_
       rotate_left
       ·show Act.put _ (some 6) _ = _
        simp only [Act.put, List.setIfInBounds_toArray, List.set_cons_zero, List.set_cons_succ, i64_w, i32_w]
        rfl
       refine one_ (i := 5) (N := some 20) #[true, true, true, true, true, true, false, false, false, true, false, false] rfl rfl (one_of HT_.out oK) oD (fun K hK => ?_)
       refine goes_ Try.func19 oK rfl #[.agg #[.int .i64 x511000_1, .int .i64 x511001_1, .slice Ao8 x511002_1.length co8], .agg #[.int .i64 ((rd_T27 l1 x5_1).f0), .int .i64 ((rd_T27 l1 x5_1).f1), .int .i64 ((rd_T27 l1 x5_1).f2), .int .i64 ((rd_T27 l1 x5_1).f3), .int .i64 ((rd_T27 l1 x5_1).f4)]] (by rfl) rfl rfl oA ?_
       with_reducible refine (impl_OpDo.calls k1 x511000_1 x511001_1 _ _ x511002_1 ((rd_T27 l1 x5_1).f0) ((rd_T27 l1 x5_1).f1) ((rd_T27 l1 x5_1).f2) ((rd_T27 l1 x5_1).f3) ((rd_T27 l1 x5_1).f4) t513 t514 t515 t518 _ ?side1 ?side2 A7.out).mono ?_
       (case side1 => repeat (first | exact (Kd.V_reads' HO_511002.out).2.2 | (with_reducible refine Kd.C_alloc ?_ _) | (with_reducible refine Kd.C_drewN ?_ _) | (with_reducible refine Kd.C_drew ?_)))
       (case side2 => exact (Kd.V_reads' HO_511002.out).2.1)
       rintro e w11 ⟨v516, rfl, ho0, hb⟩
       refine ⟨_, rfl, ?_⟩
       have n_ := o2_ (Kd.V_elder' (oV HO_511002) (Kd.R_base ho0) hb) (o2_ (Kd.R_lower (Kd.R_newM (M := fun k_ => (w.heap.size ≤ k_)) ho0 (below_size (oB HB)) (fun k_ h_ => h_)) (below_size (oB HB))) (o2_ (blk_below (oP BK510) hb) (o2_ (blk_below (oP BK511) hb) (o2_ (blk_below (oP BK519) hb) (o1_ (below_step (oB HB) hb))))))
       clear HO_511002 BK510 BK511 BK519 HB
       obtain ⟨HO_511002, HO517, BK510, BK511, BK519, HB⟩ := n_
       (try clear hb)
       (try clear hb2)
       (try clear hk)
       (try clear hi)
       (try clear ho0)
       refine hK.out _ _ ⟨(blk_cell BK510.out 0).trans rfl, (blk_cell BK510.out 1).trans rfl, (blk_cell BK510.out 2).trans rfl, ((HB.out.cell (World.block_lt_of_cell? w _ hw512_0)).trans hw512_0), ((HB.out.cell (World.block_lt_of_cell? w _ hw512_1)).trans hw512_1), ((HB.out.cell (World.block_lt_of_cell? w _ hw512_2)).trans hw512_2), ((HB.out.cell (World.block_lt_of_cell? w _ hw512_3)).trans hw512_3), ((HB.out.cell (World.block_lt_of_cell? w _ hw512_4)).trans hw512_4)⟩ (fun hHeld => ?_)
       clear hK K
       refine norm_ (a' := ?_) ?_ ?_
       rotate_left
       ·show Act.put _ (some 20) _ = _
        simp only [Act.put, List.setIfInBounds_toArray, List.set_cons_zero, List.set_cons_succ, i64_w, i32_w]
        rfl
       refine pure_ (i := 6) (N := some 14) (v := ?_) (a' := ?_) #[true, true, true, true, true, true, true, false, false, true, false, false] rfl rfl (any_of HT_.out oK) (fun _ _ _ h => h) (Or.inl ⟨by rfl, ?_⟩) ?_ ?_
       rotate_left
       ·intro w'
        go_simp
        with_reducible rfl
       rotate_left
       ·simp only [Act.put, List.setIfInBounds_toArray, List.set_cons_zero, List.set_cons_succ, i64_w, i32_w]
        rfl
       refine pure_ (i := 7) (N := some 21) (v := ?_) (a' := ?_) #[true, true, true, true, true, true, true, true, false, true, false, false] rfl rfl (any_of HT_.out oK) (fun _ _ _ h => h) (Or.inl ⟨by rfl, ?_⟩) ?_ ?_
       rotate_left
       ·intro w'
        go_simp
        with_reducible rfl
       rotate_left
       ·simp only [Act.put, List.setIfInBounds_toArray, List.set_cons_zero, List.set_cons_succ, i64_w, i32_w]
        rfl
       refine pure_ (i := 8) (N := some 22) (v := ?_) (a' := ?_) #[true, true, true, true, true, true, true, true, true, true, false, false] rfl rfl (any_of HT_.out oK) (fun _ _ _ h => h) (Or.inl ⟨by rfl, ?_⟩) ?_ ?_
       rotate_left
       ·intro w'
        go_simp
        with_reducible rfl
       rotate_left
       ·simp only [Act.put, List.setIfInBounds_toArray, List.set_cons_zero, List.set_cons_succ, i64_w, i32_w]
        rfl
       exact norm_ (by simp only [putAll, Act.put, List.setIfInBounds_toArray, List.set_cons_zero, List.set_cons_succ]) (hCont (v516, gb519) _ ⟨hHeld, (by (with_reducible repeat (first | apply Kd.R_alloc | apply Kd.R_drewN | apply Kd.R_drew)); exact Kd.R_mono HO517.out (fun _ hk => hk.1)), (by (with_reducible repeat (first | apply Kd.V_alloc | apply Kd.V_drewN | apply Kd.V_drew)); exact Kd.V_mono HO_511002.out (fun _ hk => ⟨hk.1.1.1, ⟨hk.2, ⟨hk.1.1.2.1, ⟨hk.1.1.2.2, hk.1.2⟩⟩⟩⟩)), (oP BK510), (oP BK511), (oP BK519), GW519.out, GE519.out, NB510_519.out, NB519_510.out, NB511_519.out, NB519_511.out, (oB HB)⟩)
     rintro ⟨v516, gb519⟩ w12 ⟨hS_, h0_, h1_, h2_, h3_, h4_, h5_, h6_, h7_, h8_, h9_, h10_, h11_⟩
     have n0_ : Aside0 (Kd.R k38 38 w12 w.heap.size (fun k_ => (w.heap.size ≤ k_)) v516 t515) := ⟨h0_⟩
     have n1_ : Aside0 (Kd.V k38 38 w12 w.heap.size (fun k_ => (P0_2_ k_ ∨ w.heap.size ≤ k_) ∧ some k_ ≠ (v516 : Value).ownBlock ∧ k_ ≠ gb510 ∧ k_ ≠ gb511 ∧ k_ ≠ gb519) (.slice Ao8 x511002_1.length co8) x511002_1) := ⟨h1_⟩
     have n2_ : Aside0 (w12.heap[gb510]? = some (.cells #[.int .i64 x511000_1, .int .i64 x511001_1, .slice Ao8 x511002_1.length co8] 25 (0, 0))) := ⟨h2_⟩
     have n3_ : Aside0 (w12.heap[gb511]? = some (.cells #[.int .i64 0, .int .i64 0, .slice none 0 0] 25 (0, 0))) := ⟨h3_⟩
     have n4_ : Aside0 (w12.heap[gb519]? = some (.cells #[.int .i64 0, .int .i64 0, .slice none 0 0] 25 (0, 0))) := ⟨h4_⟩
     have n5_ : Aside0 (w.heap.size ≤ gb519) := ⟨h5_⟩
     have n6_ : Aside0 (w.heap.size ≤ gb519) := ⟨h6_⟩
     have n7_ : Aside0 (gb510 ≠ gb519) := ⟨h7_⟩
     have n8_ : Aside0 (gb519 ≠ gb510) := ⟨h8_⟩
     have n9_ : Aside0 (gb511 ≠ gb519) := ⟨h9_⟩
     have n10_ : Aside0 (gb519 ≠ gb511) := ⟨h10_⟩
     have n11_ : Aside0 (Below w.heap.size w w12) := ⟨h11_⟩
     clear HO_511002
     clear BK510
     clear BK511
     clear HB
     clear h0_ h1_ h2_ h3_ h4_ h5_ h6_ h7_ h8_ h9_ h10_ h11_
     have HO517 := n0_
     have HO_511002 := n1_
     have BK510 := n2_
     have BK511 := n3_
     have BK519 := n4_
     have GW519 := n5_
     have GE519 := n6_
     have NB510_519 := n7_
     have NB519_510 := n8_
     have NB511_519 := n9_
     have NB519_511 := n10_
     have HB := n11_
     clear n0_ n1_ n2_ n3_ n4_ n5_ n6_ n7_ n8_ n9_ n10_ n11_
     have hHeld : w12.cell? ⟨gb510, 0, none⟩ = some (.int .i64 x511000_1) ∧ w12.cell? ⟨gb510, 1, none⟩ = some (.int .i64 x511001_1) ∧ w12.cell? ⟨gb510, 2, none⟩ = some (.slice Ao8 x511002_1.length co8) ∧ w12.cell? (ad512.add ((x5_1).toNat * 5)) = some (.int .i64 ((rd_T27 l1 x5_1).f0)) ∧ w12.cell? ⟨(ad512.add ((x5_1).toNat * 5)).block, (ad512.add ((x5_1).toNat * 5)).off + 1, none⟩ = some (.int .i64 ((rd_T27 l1 x5_1).f1)) ∧ w12.cell? ⟨(ad512.add ((x5_1).toNat * 5)).block, (ad512.add ((x5_1).toNat * 5)).off + 2, none⟩ = some (.int .i64 ((rd_T27 l1 x5_1).f2)) ∧ w12.cell? ⟨(ad512.add ((x5_1).toNat * 5)).block, (ad512.add ((x5_1).toNat * 5)).off + 3, none⟩ = some (.int .i64 ((rd_T27 l1 x5_1).f3)) ∧ w12.cell? ⟨(ad512.add ((x5_1).toNat * 5)).block, (ad512.add ((x5_1).toNat * 5)).off + 4, none⟩ = some (.int .i64 ((rd_T27 l1 x5_1).f4)) := hS_
     obtain ⟨Ao15, co15, eo15⟩ := Kd.R_slice HO517.out
     (first | subst eo15 | (injection eo15 with f1_ f2_ f3_; have f4_ := f1_.symm; have f5_ := f3_.symm; clear f1_ f2_ f3_; subst f4_; subst f5_))
     refine norm_ (a' := ?_) ?_ ?_
     rotate_left
     ·simp only [putAll, Act.put, List.setIfInBounds_toArray, List.set_cons_zero, List.set_cons_succ]
      rfl
     refine one_ (i := 10) (N := none) #[true, true, true, true, true, true, true, true, true, true, true, false] rfl rfl (one_of HT_.out oK) oD (fun K hK => ?_)
     have hs13 : w12.cell? ⟨gb519, 0, none⟩ = some (.int .i64 0) := (blk_cell BK519.out 0).trans rfl
     have hfs13 := blk_frozen BK519.out 0
     have hns13_0 := NB510_519.out
     have hns13_1 := NB511_519.out
     have hms13_0 := NB519_510.out
     have hms13_1 := NB519_511.out
     have hs14 : w12.cell? ⟨gb519, 1, none⟩ = some (.int .i64 0) := (blk_cell BK519.out 1).trans rfl
     have hfs14 := blk_frozen BK519.out 1
     have hns14_0 := NB510_519.out
     have hns14_1 := NB511_519.out
     have hms14_0 := NB519_510.out
     have hms14_1 := NB519_511.out
     have hs16 : w12.cell? ⟨gb519, 2, none⟩ = some (.slice none 0 0) := (blk_cell BK519.out 2).trans rfl
     have hfs16 := blk_frozen BK519.out 2
     have hns16_0 := NB510_519.out
     have hns16_1 := NB511_519.out
     have hms16_0 := NB519_510.out
     have hms16_1 := NB519_511.out
     refine skip_ (w1 := ?_) (by rfl) rfl ?_ ?_
     rotate_left
     ·go_simp
      rfl
     refine hK.out _ _ ⟨((cell_far (p := ⟨gb519, _, none⟩) NB510_519.out _).trans (((cell_far (p := ⟨gb519, _, none⟩) NB510_519.out _).trans (((cell_far (p := ⟨gb519, _, none⟩) NB510_519.out _).trans (hHeld.1)))))), ((cell_far (p := ⟨gb519, _, none⟩) NB510_519.out _).trans (((cell_far (p := ⟨gb519, _, none⟩) NB510_519.out _).trans (((cell_far (p := ⟨gb519, _, none⟩) NB510_519.out _).trans (hHeld.2.1)))))), ((cell_far (p := ⟨gb519, _, none⟩) NB510_519.out _).trans (((cell_far (p := ⟨gb519, _, none⟩) NB510_519.out _).trans (((cell_far (p := ⟨gb519, _, none⟩) NB510_519.out _).trans (hHeld.2.2.1)))))), ((cell_far (p := ⟨gb519, _, none⟩) (by first | exact Nat.ne_of_lt (oW hw512_0 GW519) | (rw [add_block]; exact Nat.ne_of_lt (oW hw512_0 GW519)) | (show (Addr.add _ _).block ≠ _; rw [add_block]; exact Nat.ne_of_lt (oW hw512_0 GW519)) | (dsimp only; exact Nat.ne_of_lt (oW hw512_0 GW519))) _).trans (((cell_far (p := ⟨gb519, _, none⟩) (by first | exact Nat.ne_of_lt (oW hw512_0 GW519) | (rw [add_block]; exact Nat.ne_of_lt (oW hw512_0 GW519)) | (show (Addr.add _ _).block ≠ _; rw [add_block]; exact Nat.ne_of_lt (oW hw512_0 GW519)) | (dsimp only; exact Nat.ne_of_lt (oW hw512_0 GW519))) _).trans (((cell_far (p := ⟨gb519, _, none⟩) (by first | exact Nat.ne_of_lt (oW hw512_0 GW519) | (rw [add_block]; exact Nat.ne_of_lt (oW hw512_0 GW519)) | (show (Addr.add _ _).block ≠ _; rw [add_block]; exact Nat.ne_of_lt (oW hw512_0 GW519)) | (dsimp only; exact Nat.ne_of_lt (oW hw512_0 GW519))) _).trans (hHeld.2.2.2.1)))))), ((cell_far (p := ⟨gb519, _, none⟩) (by first | exact Nat.ne_of_lt (oW hw512_1 GW519) | (rw [add_block]; exact Nat.ne_of_lt (oW hw512_1 GW519)) | (show (Addr.add _ _).block ≠ _; rw [add_block]; exact Nat.ne_of_lt (oW hw512_1 GW519)) | (dsimp only; exact Nat.ne_of_lt (oW hw512_1 GW519))) _).trans (((cell_far (p := ⟨gb519, _, none⟩) (by first | exact Nat.ne_of_lt (oW hw512_1 GW519) | (rw [add_block]; exact Nat.ne_of_lt (oW hw512_1 GW519)) | (show (Addr.add _ _).block ≠ _; rw [add_block]; exact Nat.ne_of_lt (oW hw512_1 GW519)) | (dsimp only; exact Nat.ne_of_lt (oW hw512_1 GW519))) _).trans (((cell_far (p := ⟨gb519, _, none⟩) (by first | exact Nat.ne_of_lt (oW hw512_1 GW519) | (rw [add_block]; exact Nat.ne_of_lt (oW hw512_1 GW519)) | (show (Addr.add _ _).block ≠ _; rw [add_block]; exact Nat.ne_of_lt (oW hw512_1 GW519)) | (dsimp only; exact Nat.ne_of_lt (oW hw512_1 GW519))) _).trans (hHeld.2.2.2.2.1)))))), ((cell_far (p := ⟨gb519, _, none⟩) (by first | exact Nat.ne_of_lt (oW hw512_2 GW519) | (rw [add_block]; exact Nat.ne_of_lt (oW hw512_2 GW519)) | (show (Addr.add _ _).block ≠ _; rw [add_block]; exact Nat.ne_of_lt (oW hw512_2 GW519)) | (dsimp only; exact Nat.ne_of_lt (oW hw512_2 GW519))) _).trans (((cell_far (p := ⟨gb519, _, none⟩) (by first | exact Nat.ne_of_lt (oW hw512_2 GW519) | (rw [add_block]; exact Nat.ne_of_lt (oW hw512_2 GW519)) | (show (Addr.add _ _).block ≠ _; rw [add_block]; exact Nat.ne_of_lt (oW hw512_2 GW519)) | (dsimp only; exact Nat.ne_of_lt (oW hw512_2 GW519))) _).trans (((cell_far (p := ⟨gb519, _, none⟩) (by first | exact Nat.ne_of_lt (oW hw512_2 GW519) | (rw [add_block]; exact Nat.ne_of_lt (oW hw512_2 GW519)) | (show (Addr.add _ _).block ≠ _; rw [add_block]; exact Nat.ne_of_lt (oW hw512_2 GW519)) | (dsimp only; exact Nat.ne_of_lt (oW hw512_2 GW519))) _).trans (hHeld.2.2.2.2.2.1)))))), ((cell_far (p := ⟨gb519, _, none⟩) (by first | exact Nat.ne_of_lt (oW hw512_3 GW519) | (rw [add_block]; exact Nat.ne_of_lt (oW hw512_3 GW519)) | (show (Addr.add _ _).block ≠ _; rw [add_block]; exact Nat.ne_of_lt (oW hw512_3 GW519)) | (dsimp only; exact Nat.ne_of_lt (oW hw512_3 GW519))) _).trans (((cell_far (p := ⟨gb519, _, none⟩) (by first | exact Nat.ne_of_lt (oW hw512_3 GW519) | (rw [add_block]; exact Nat.ne_of_lt (oW hw512_3 GW519)) | (show (Addr.add _ _).block ≠ _; rw [add_block]; exact Nat.ne_of_lt (oW hw512_3 GW519)) | (dsimp only; exact Nat.ne_of_lt (oW hw512_3 GW519))) _).trans (((cell_far (p := ⟨gb519, _, none⟩) (by first | exact Nat.ne_of_lt (oW hw512_3 GW519) | (rw [add_block]; exact Nat.ne_of_lt (oW hw512_3 GW519)) | (show (Addr.add _ _).block ≠ _; rw [add_block]; exact Nat.ne_of_lt (oW hw512_3 GW519)) | (dsimp only; exact Nat.ne_of_lt (oW hw512_3 GW519))) _).trans (hHeld.2.2.2.2.2.2.1)))))), ((cell_far (p := ⟨gb519, _, none⟩) (by first | exact Nat.ne_of_lt (oW hw512_4 GW519) | (rw [add_block]; exact Nat.ne_of_lt (oW hw512_4 GW519)) | (show (Addr.add _ _).block ≠ _; rw [add_block]; exact Nat.ne_of_lt (oW hw512_4 GW519)) | (dsimp only; exact Nat.ne_of_lt (oW hw512_4 GW519))) _).trans (((cell_far (p := ⟨gb519, _, none⟩) (by first | exact Nat.ne_of_lt (oW hw512_4 GW519) | (rw [add_block]; exact Nat.ne_of_lt (oW hw512_4 GW519)) | (show (Addr.add _ _).block ≠ _; rw [add_block]; exact Nat.ne_of_lt (oW hw512_4 GW519)) | (dsimp only; exact Nat.ne_of_lt (oW hw512_4 GW519))) _).trans (((cell_far (p := ⟨gb519, _, none⟩) (by first | exact Nat.ne_of_lt (oW hw512_4 GW519) | (rw [add_block]; exact Nat.ne_of_lt (oW hw512_4 GW519)) | (show (Addr.add _ _).block ≠ _; rw [add_block]; exact Nat.ne_of_lt (oW hw512_4 GW519)) | (dsimp only; exact Nat.ne_of_lt (oW hw512_4 GW519))) _).trans (hHeld.2.2.2.2.2.2.2))))))⟩ (fun hHeld => ?_)
     clear hK K
     refine pure_ (i := 11) (N := some 7) (v := ?_) (a' := ?_) #[true, true, true, true, true, true, true, true, true, true, true, true] rfl rfl (any_of HT_.out oK) (fun _ _ _ h => h) (Or.inl ⟨by rfl, ?_⟩) ?_ ?_
     rotate_left
     ·intro w'
      go_simp
      with_reducible rfl
     rotate_left
     ·simp only [Act.put, List.setIfInBounds_toArray, List.set_cons_zero, List.set_cons_succ, i64_w, i32_w]
      rfl
     refine done_ (done_of HT_.out oK) ?_
     have hnb17 := NB519_510.out
     have hnc17 := NB510_519.out
     have hnb18 := NB519_511.out
     have hnc18 := NB511_519.out
     have hcz19_0 : w12.cell? ⟨gb519, 0, none⟩ = some (.int .i64 0) := (blk_cell BK519.out 0).trans rfl
     have hcz19_1 : w12.cell? ⟨gb519, 1, none⟩ = some (.int .i64 0) := (blk_cell BK519.out 1).trans rfl
     have hcz19_2 : w12.cell? ⟨gb519, 2, none⟩ = some (.slice none 0 0) := (blk_cell BK519.out 2).trans rfl
     have hfz19_0 := blk_frozen BK519.out 0
     have hfz19_1 := blk_frozen BK519.out 1
     have hfz19_2 := blk_frozen BK519.out 2
     have hnb20 := NB510_511.out
     have hnc20 := NB511_510.out
     have hcz21_0 : w12.cell? ⟨gb510, 0, none⟩ = some (.int .i64 x511000_1) := (blk_cell BK510.out 0).trans rfl
     have hcz21_1 : w12.cell? ⟨gb510, 1, none⟩ = some (.int .i64 x511001_1) := (blk_cell BK510.out 1).trans rfl
     have hcz21_2 : w12.cell? ⟨gb510, 2, none⟩ = some (.slice Ao8 x511002_1.length co8) := (blk_cell BK510.out 2).trans rfl
     have hfz21_0 := blk_frozen BK510.out 0
     have hfz21_1 := blk_frozen BK510.out 1
     have hfz21_2 := blk_frozen BK510.out 2
     try go_wp2
     go_roundg k1
     case measure => have := HK1.out; omega
     case rel => exact ⟨(wrap64 (x5_1 + 1)), (t513), (t514), (t515), (.slice Ao15 t515.length co15), (by first | rfl | (simp; done) | (simp [*]; done)), H', ⟨(by have := HK1.out; omega)⟩, ⟨Kd.V_mono (ok := fun k_ => w.heap.size ≤ k_ ∧ k_ ≠ gb510 ∧ k_ ≠ gb511) (Kd.R_V (by (with_reducible repeat (first | apply Kd.R_alloc | apply Kd.R_drewN | apply Kd.R_drew)); exact Kd.R_mono (Kd.R_far (p := ⟨gb510, 2, none⟩) (Kd.R_far (p := ⟨gb510, 1, none⟩) (Kd.R_far (p := ⟨gb510, 0, none⟩) (Kd.R_far (p := ⟨gb519, 2, none⟩) (Kd.R_far (p := ⟨gb519, 1, none⟩) (Kd.R_far (p := ⟨gb519, 0, none⟩) (Kd.R_types (Kd.R_types (Kd.R_types (Kd.R_types HO517.out BK510.out oD) BK511.out oD) BK519.out oD) BK510.out oD) (fun _ hk => hk.1.2) (.int .i64 t513)) (fun _ hk => hk.1.2) (.int .i64 t514)) (fun _ hk => hk.1.2) (.slice Ao15 t515.length co15)) (fun _ hk => hk.2) (.int .i64 t513)) (fun _ hk => hk.2) (.int .i64 t514)) (fun _ hk => hk.2) (.slice Ao15 t515.length co15)) (fun _ hk => ⟨hk.1.1.1.1, ⟨hk.1.1.1.2, hk.1.1.2⟩⟩))) (fun k_ hk => by first | exact ⟨(.inr (hk.1)), hk.2⟩ | exact (.inr (hk)))⟩, ⟨(by (with_reducible repeat (first | refine blk_drewN ?_ _ | refine blk_drew ?_ | refine blk_alloc ?_ _)); refine blk_put (cs := #[.int .i64 t513, .int .i64 t514, .slice Ao8 x511002_1.length co8]) ?_ 2 _ rfl; (with_reducible repeat (first | refine blk_drewN ?_ _ | refine blk_drew ?_ | refine blk_alloc ?_ _)); refine blk_put (cs := #[.int .i64 t513, .int .i64 x511001_1, .slice Ao8 x511002_1.length co8]) ?_ 1 _ rfl; (with_reducible repeat (first | refine blk_drewN ?_ _ | refine blk_drew ?_ | refine blk_alloc ?_ _)); refine blk_put (cs := #[.int .i64 x511000_1, .int .i64 x511001_1, .slice Ao8 x511002_1.length co8]) ?_ 0 _ rfl; (with_reducible repeat (first | refine blk_drewN ?_ _ | refine blk_drew ?_ | refine blk_alloc ?_ _)); refine blk_far ?_ NB510_519.out _; (with_reducible repeat (first | refine blk_drewN ?_ _ | refine blk_drew ?_ | refine blk_alloc ?_ _)); refine blk_far ?_ NB510_519.out _; (with_reducible repeat (first | refine blk_drewN ?_ _ | refine blk_drew ?_ | refine blk_alloc ?_ _)); refine blk_far ?_ NB510_519.out _; (with_reducible repeat (first | refine blk_drewN ?_ _ | refine blk_drew ?_ | refine blk_alloc ?_ _)); exact BK510.out)⟩, ⟨(oP BK511)⟩, ⟨(oB HB)⟩⟩
    ·rw [if_neg c6] at H
     exact absurd H (by simp)
   ·rw [if_neg c5] at H
    have c5b0 : decide (x5_1 < (l1.length : Int)) = false := decide_eq_false c5
    clear c5
    simp only [Option.some.injEq, Prod.mk.injEq] at H
    obtain ⟨rfl, rfl, rfl⟩ := H
    have hnb22 := NB510_511.out
    have hnc22 := NB511_510.out
    have hcz23_0 : wr.cell? ⟨gb510, 0, none⟩ = some (.int .i64 x511000_1) := (blk_cell BK510.out 0).trans rfl
    have hcz23_1 : wr.cell? ⟨gb510, 1, none⟩ = some (.int .i64 x511001_1) := (blk_cell BK510.out 1).trans rfl
    have hcz23_2 : wr.cell? ⟨gb510, 2, none⟩ = some (u511002) := (blk_cell BK510.out 2).trans rfl
    have hfz23_0 := blk_frozen BK510.out 0
    have hfz23_1 := blk_frozen BK510.out 1
    have hfz23_2 := blk_frozen BK510.out 2
    have hcz24_0 : wr.cell? ⟨gb511, 0, none⟩ = some (.int .i64 0) := (blk_cell BK511.out 0).trans rfl
    have hcz24_1 : wr.cell? ⟨gb511, 1, none⟩ = some (.int .i64 0) := (blk_cell BK511.out 1).trans rfl
    have hcz24_2 : wr.cell? ⟨gb511, 2, none⟩ = some (.slice none 0 0) := (blk_cell BK511.out 2).trans rfl
    have hfz24_0 := blk_frozen BK511.out 0
    have hfz24_1 := blk_frozen BK511.out 1
    have hfz24_2 := blk_frozen BK511.out 2
    obtain ⟨Ao25, co25, eo25⟩ := Kd.V_slice HO_511002.out
    subst eo25
    go_wp2
    refine bodyPost_ret (results_cell_row rfl _ _ gb511 25 #[.int .i64 x511000_1, .int .i64 x511001_1, .slice Ao25 x511002_1.length co25] (0, 0) _ rfl (blk_put (blk_put (blk_put BK511.out 0 _ rfl) 1 _ rfl) 2 _ rfl) Try.underlying25 rfl oK) rfl ?_
    exact ⟨_, by first | rfl | (simp [errW_none, errW_some] <;> rfl) | (simp [*, errW_none, errW_some] <;> rfl), by (with_reducible repeat (first | apply Kd.V_alloc | apply Kd.V_drewN | apply Kd.V_drew)); exact Kd.V_mono (Kd.V_far (p := ⟨gb511, 2, none⟩) (Kd.V_far (p := ⟨gb511, 1, none⟩) (Kd.V_far (p := ⟨gb511, 0, none⟩) (Kd.V_mono HO_511002.out (fun k_ hk => (⟨hk, hk.2.2⟩ : _ ∧ k_ ≠ gb511))) (fun _ hk => hk.2) (.int .i64 x511000_1)) (fun _ hk => hk.2) (.int .i64 x511001_1)) (fun _ hk => hk.2) (.slice Ao25 x511002_1.length co25)) (fun _ hk => hk.1.1), oB HB⟩

end Go.Proofs.Ythnmeogafklhnaa.X
