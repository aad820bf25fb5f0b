/- What functions of the program come to, each with its proof. No condition but what each theorem states. -/
import Derived.Test.YtfnkaccncmjnaaaX0
import Derived.Test.YtfnkaccncmjnaaaX3
namespace Go.Proofs.Ytfnkaccncmjnaaa.X
open Go.RowKit Go.Proofs.YtfnkaccncmjnaaaW.PrintWords Go.Proofs.YtfnkaccncmjnaaaW.PrintLast Go.Proofs.YtfnkaccncmjnaaaW.PrintMore Go.Proofs.Ytfnkaccncmjnaaa.Hyb
attribute [local go_sem] max2_int min2_int max_two min_two max_three min_three max_four min_four
set_option linter.unusedVariables false
set_option linter.unusedSimpArgs false

/-! ### spec_BitPut: function 14 -/
mutual
def spec_BitPut.l0 : Nat → List (S36) → List Int → Int → Int → Option (List Int)
 | 0, _, _, _, _ => none
 | k + 1, x0, x3, x4, x5 => if x5 < (x0.length : Int) then (if 0 ≤ x5 then ((spec_BitOk.f ((rd_T36 x0 x5).f0) ((rd_T36 x0 x5).f1)).bind fun cG => (if cG = true then (spec_BitPut.j1 k x0 x3 x4 x5 (decide ((x3.length : Int) > 400))) else (spec_BitPut.j1 k x0 x3 x4 x5 true))) else (none)) else (if (x3.length : Int) > 400 then (some (([] : List Int))) else (some x3))
def spec_BitPut.j1 : Nat → List (S36) → List Int → Int → Int → Bool → Option (List Int)
 | 0, _, _, _, _, _ => none
 | k + 1, x0, x3, x4, x5, x24 => if x24 = true then (some (([] : List Int))) else (spec_BitPut.l1 k x0 x3 x4 x5 0)
def spec_BitPut.l1 : Nat → List (S36) → List Int → Int → Int → Int → Option (List Int)
 | 0, _, _, _, _, _ => none
 | k + 1, x0, x3, x4, x5, x6 => if 0 ≤ x5 then (if x5 < (x0.length : Int) then (if x6 < ((rd_T36 x0 x5).f1) then (if (Int.tmod x4 8) = 0 then (if x3.length < 140737488355328 then ((some (x3 ++ [0] : List Int)).bind fun aM => (if 0 ≤ (wrap64 (Int.tdiv x4 8)) then (if (wrap64 (Int.tdiv x4 8)) < (aM.length : Int) then (if 0 ≤ x6 then (if 0 ≤ (Int.tmod x4 8) then (spec_BitPut.l1 k x0 (aM.set ((wrap64 (Int.tdiv x4 8)) : Int).toNat (((rd aM (wrap64 (Int.tdiv x4 8))) + ((shl .i64 (Int.tmod (shr .i64 ((rd_T36 x0 x5).f0) x6) 2) (Int.tmod x4 8)) % 256)) % 256)) (wrap64 (x4 + 1)) x5 (wrap64 (x6 + 1))) else (none)) else (none)) else (none)) else (none))) else (none)) else (if 0 ≤ (wrap64 (Int.tdiv x4 8)) then (if (wrap64 (Int.tdiv x4 8)) < (x3.length : Int) then (if 0 ≤ x6 then (if 0 ≤ (Int.tmod x4 8) then (spec_BitPut.l1 k x0 (x3.set ((wrap64 (Int.tdiv x4 8)) : Int).toNat (((rd x3 (wrap64 (Int.tdiv x4 8))) + ((shl .i64 (Int.tmod (shr .i64 ((rd_T36 x0 x5).f0) x6) 2) (Int.tmod x4 8)) % 256)) % 256)) (wrap64 (x4 + 1)) x5 (wrap64 (x6 + 1))) else (none)) else (none)) else (none)) else (none))) else (spec_BitPut.l0 k x0 x3 x4 (wrap64 (x5 + 1)))) else (none)) else (none)
end
def spec_BitPut.f (k : Nat) (l0 : List (S36)) : Option (List Int) := spec_BitPut.l0 k l0 (([] : List Int)) 0 0
theorem spec_BitPut.mono_l : ∀ k, (∀ y0 y1 y2 y3, LeO (spec_BitPut.l0 k y0 y1 y2 y3) (spec_BitPut.l0 (k + 1) y0 y1 y2 y3)) ∧ (∀ y0 y1 y2 y3 y4, LeO (spec_BitPut.j1 k y0 y1 y2 y3 y4) (spec_BitPut.j1 (k + 1) y0 y1 y2 y3 y4)) ∧ (∀ y0 y1 y2 y3 y4, LeO (spec_BitPut.l1 k y0 y1 y2 y3 y4) (spec_BitPut.l1 (k + 1) y0 y1 y2 y3 y4))
 | 0 => ⟨(fun _ _ _ _ r h => nomatch (show none = some r from h)), (fun _ _ _ _ _ r h => nomatch (show none = some r from h)), (fun _ _ _ _ _ r h => nomatch (show none = some r from h))⟩
 | k + 1 => by
  obtain ⟨ih0, ih1, ih2⟩ := spec_BitPut.mono_l k
  refine ⟨?_, ?_, ?_⟩
  ·intro y0 y1 y2 y3
   unfold spec_BitPut.l0
   repeat' first
   | (with_reducible exact ih0 _ _ _ _)
   | (with_reducible exact ih1 _ _ _ _ _)
   | (with_reducible exact ih2 _ _ _ _ _)
   | (with_reducible exact LeO.refl _)
   | (with_reducible exact LeO.none _)
   | (with_reducible refine LeO.ite ?_ ?_)
   | (with_reducible refine LeO.bind ?_ (fun _ => ?_))
   | exact ih0 _ _ _ _
   | exact ih1 _ _ _ _ _
   | exact ih2 _ _ _ _ _
   | exact LeO.none _
   | refine LeO.ite ?_ ?_
   | refine LeO.bind ?_ (fun _ => ?_)
  ·intro y0 y1 y2 y3 y4
   unfold spec_BitPut.j1
   repeat' first
   | (with_reducible exact ih0 _ _ _ _)
   | (with_reducible exact ih1 _ _ _ _ _)
   | (with_reducible exact ih2 _ _ _ _ _)
   | (with_reducible exact LeO.refl _)
   | (with_reducible exact LeO.none _)
   | (with_reducible refine LeO.ite ?_ ?_)
   | (with_reducible refine LeO.bind ?_ (fun _ => ?_))
   | exact ih0 _ _ _ _
   | exact ih1 _ _ _ _ _
   | exact ih2 _ _ _ _ _
   | exact LeO.none _
   | refine LeO.ite ?_ ?_
   | refine LeO.bind ?_ (fun _ => ?_)
  ·intro y0 y1 y2 y3 y4
   unfold spec_BitPut.l1
   repeat' first
   | (with_reducible exact ih0 _ _ _ _)
   | (with_reducible exact ih1 _ _ _ _ _)
   | (with_reducible exact ih2 _ _ _ _ _)
   | (with_reducible exact LeO.refl _)
   | (with_reducible exact LeO.none _)
   | (with_reducible refine LeO.ite ?_ ?_)
   | (with_reducible refine LeO.bind ?_ (fun _ => ?_))
   | exact ih0 _ _ _ _
   | exact ih1 _ _ _ _ _
   | exact ih2 _ _ _ _ _
   | exact LeO.none _
   | refine LeO.ite ?_ ?_
   | refine LeO.bind ?_ (fun _ => ?_)
theorem spec_BitPut.mono : ∀ a0 k, LeO (spec_BitPut.f k a0) (spec_BitPut.f (k + 1) a0) := by
 intro a0 k
 obtain ⟨ih0, ih1, ih2⟩ := spec_BitPut.mono_l k
 unfold spec_BitPut.f
 repeat' first
   | (with_reducible exact ih0 _ _ _ _)
   | (with_reducible exact ih1 _ _ _ _ _)
   | (with_reducible exact ih2 _ _ _ _ _)
   | (with_reducible exact LeO.refl _)
   | (with_reducible exact LeO.none _)
   | (with_reducible refine LeO.ite ?_ ?_)
   | (with_reducible refine LeO.bind ?_ (fun _ => ?_))
   | exact ih0 _ _ _ _
   | exact ih1 _ _ _ _ _
   | exact ih2 _ _ _ _ _
   | exact LeO.none _
   | refine LeO.ite ?_ ?_
   | refine LeO.bind ?_ (fun _ => ?_)
def spec_BitPut.T13 : Bool × List (List Nat × List Nat) := (true, [([], []), ([], []), ([1], [1]), ([], []), ([], []), ([4], [4]), ([3, 5], [3, 5]), ([6], [6]), ([], []), ([], []), ([8, 9], [8, 9]), ([10], [10]), ([11], [11]), ([], []), ([12, 13], [12, 13]), ([14], [14]), ([], []), ([16], [16]), ([15, 17], [15, 17]), ([18], [18]), ([7, 19], [7, 19]), ([0, 2, 0, 1, 2, 3, 4, 5, 6, 7, 8, 9, 10, 11, 12, 13, 14, 15, 16, 17, 18, 19, 20], [0, 2]), ([21, 20, 0, 1, 2, 3, 4, 5, 6, 7, 8, 9, 10, 11, 12, 13, 14, 15, 16, 17, 18, 19, 20], [20, 21])])
def spec_BitPut.B13 : List Nat := [0, 0, 2, 0, 0, 16, 56, 120, 0, 0, 768, 1792, 3840, 0, 16128, 32512, 0, 65536, 261888, 524032, 1048568, 2097151, 4194303]
theorem spec_BitPut.tab13 : rtab .any (opsOf Try.f14 13) = spec_BitPut.T13 := by kernel_rfl
theorem spec_BitPut.bits13 : waitsOk spec_BitPut.T13.2 spec_BitPut.B13 = true := by kernel_rfl
set_option maxHeartbeats 8000000 in
set_option maxRecDepth 100000 in
theorem spec_BitPut.calls (k : Nat) (A0 : Option Addr) (c0 : Nat) (l0 : List (S36)) (r : List Int) (w : World) (hr0 : Kd.C k36 w A0 l0.length l0) (fB : l0.length ≤ c0) (h : spec_BitPut.f k l0 = some r) :
  Calls Try.prog 14 #[.slice A0 l0.length c0] w fun e w' => ∃ fC : Value, e = .returned (fC) ∧ Kd.R (Kd.int .u8) 5 w' w.heap.size (fun _ => True) fC r ∧ Below w.heap.size w w' := by
 have hu36 := Try.underlying36
 have bO := Aside0.mk hr0
 have fV := Aside0.mk fB
 clear hr0 fB
 have HB := Aside0.mk (Below.refl w.heap.size w)
 have H : (spec_BitPut.l0 k l0 (([] : List Int)) 0 0) = some r := h
 clear h
 obtain ⟨y104, hy104⟩ : ∃ y_ : List Int, y_ = (([] : List Int)) := ⟨_, rfl⟩
 replace H : (spec_BitPut.l0 k l0 y104 0 0) = some r := by first | (rw [hy104]; with_reducible exact H) | (have H2_ := (Option.bind_some _ _).symm.trans H; rw [hy104]; with_reducible exact H2_) | (have H2_ := (Option.bind_some _ _).symm.trans H; with_reducible exact H2_) | with_reducible exact H | (rw [hy104]; exact H) | exact H
 have bL := Aside0.mk hy104
 clear hy104
 have H' := Aside0.mk H
 clear H
 go_enter Try.func14, Try.ntmps14
 go_wp2_with (first | ((with_reducible refine gate_dst (N := 7) rfl ?_); (try (refine gate_guard (by rfl) ?_; dsimp only)); refine Kd.R_lit (Kd.int .u8) _ 5 ?hg (N := 7) ?hd (xs := ([] : List Int)) (inner := []) (ok := fun _ => True) (okp := fun _ => True) ?hr ?hp (fun _ hk => hk) trivial (Below.refl _ _) (Nat.le_refl _) (by simp) ?_; (case hd => rfl); (case hg => rfl); (case hr => first | (go_simp; done) | (go_simp; rfl)); (case hp => exact (Reps.none _ _)); intro fP w2 ho3 hb hg_ hnew_; clear hg_ hnew_; (first | rw [← bL.out] at ho3 | (simp only [Int.reduceToNat] at ho3; rw [← bL.out] at ho3)); have n_ := o2_ (Kd.R_lower ho3 (below_size (oB HB))) (o1_ (below_step (oB HB) hb)); clear HB; obtain ⟨cK, HB⟩ := n_; clear hb ho3))
 go_loopg [3, 4, 5] k (fun kq v3 v4 v5 w' => ∃ (aW : List Int) (bJ : Int) (aA : Int), v4 = .int .i64 bJ ∧ v5 = .int .i64 aA ∧ Aside0 (spec_BitPut.l0 kq l0 aW bJ aA = some r) ∧ Aside0 (kq ≤ k) ∧ Aside0 (Kd.R (Kd.int .u8) 5 w' w.heap.size (fun _ => True) v3 aW) ∧ Aside0 (Below w.heap.size w w'))
 case atStart => exact ⟨(y104), (0), (0), oU, oU, H', ⟨Nat.le_refl _⟩, ⟨(oR cK)⟩, ⟨(oB HB)⟩⟩
 case round =>
  clear H'
  try clear c1
  try clear p2
  obtain ⟨aW, bJ, aA, rfl, rfl, HA, HK1, aE, HB⟩ := hrel
  cases gk with
  | zero => exact nomatch (show none = some _ from HA.out)
  | succ k1 =>
   have H := HA.out
   clear HA
   simp only [spec_BitPut.l0] at H
   by_cases c4 : aA < (l0.length : Int)
   ·rw [if_pos c4] at H
    have bQ : decide (aA < (l0.length : Int)) = true := decide_eq_true c4
    clear c4
    have dO := Aside0.mk H
    clear H
    go_upto_region 6 with (fail)
    go_cut [24] (fun fT wc => ∃ (kq : Nat) (bD : Bool), fT = .bool bD ∧ Aside0 (spec_BitPut.j1 kq l0 aW bJ aA bD = some r) ∧ Aside0 (kq ≤ k1) ∧ Aside0 (Kd.R (Kd.int .u8) 5 wc w.heap.size (fun _ => True) u3 aW) ∧ Aside0 (Below w.heap.size w wc))
    case first =>
     have H := dO.out
     clear dO
     by_cases c6 : 0 ≤ aA
     ·rw [if_pos c6] at H
      have bK : decide (0 ≤ aA) = true := decide_eq_true c6
      clear c6
      (first | rw [bK] | (simp only [i64_w, i32_w]; rw [bK]) | skip)
      replace H := Option.bind_eq_some_iff.mp H
      obtain ⟨cG, eK, H⟩ := H
      (try dsimp only at H)
      have A7 := Aside0.mk eK
      clear eK
      by_cases c8 : cG = true
      ·subst c8
       rw [if_pos rfl] at H
       have H' := Aside0.mk H
       clear H
       have bB : 0 ≤ (aA : Int) := of_decide_eq_true oM
       have bC : aA < (l0.length : Int) := of_decide_eq_true oM
       obtain ⟨cQ, bR, aI, aJ⟩ := at_T36 bO.out aA bB bC
       cases bR
       replace aI := (HB.out.cell (World.block_lt_of_cell? w _ aI)).trans aI
       replace aJ := (HB.out.cell (World.block_lt_of_cell? w _ aJ)).trans aJ
       replace bB := eq_true bB
       replace bC := eq_true bC
       go_wp2_with (first | ((with_reducible refine gate_callee (f := 24) rfl ?_); refine goesL_ (some 18) rfl rfl Try.func24 oK rfl #[.agg #[.int .i64 ((rd_T36 l0 aA).f0), .int .i64 ((rd_T36 l0 aA).f1)]] rfl oA ?_; (with_reducible refine (spec_BitOk.calls ((rd_T36 l0 aA).f0) ((rd_T36 l0 aA).f1) true _ A7.out).mono ?_); rintro e w9 ⟨rfl, hb⟩; refine ⟨_, rfl, ?_⟩; have n_ := o2_ (Kd.R_below (oR aE) hb) (o1_ (below_step (oB HB) hb)); clear aE HB; obtain ⟨aE, HB⟩ := n_; (try clear hb); (try clear hb2); (try clear hk); (try clear hi); obtain ⟨fD, fI, dT⟩ := Kd.R_slice aE.out; subst dT))
       go_meet
       case rel => exact ⟨_, (decide ((aW.length : Int) > 400)), oU, H', ⟨(by have := HK1.out; first | omega | exact Nat.le_refl _)⟩, ⟨(oR aE)⟩, ⟨(oB HB)⟩⟩
      ·replace c8 := Bool.eq_false_iff.mpr c8
       subst c8
       rw [if_neg (show ¬ (false = true) by decide)] at H
       have H' := Aside0.mk H
       clear H
       have bB : 0 ≤ (aA : Int) := of_decide_eq_true oM
       have bC : aA < (l0.length : Int) := of_decide_eq_true oM
       obtain ⟨cQ, bR, aI, aJ⟩ := at_T36 bO.out aA bB bC
       cases bR
       replace aI := (HB.out.cell (World.block_lt_of_cell? w _ aI)).trans aI
       replace aJ := (HB.out.cell (World.block_lt_of_cell? w _ aJ)).trans aJ
       replace bB := eq_true bB
       replace bC := eq_true bC
       go_wp2_with (first | ((with_reducible refine gate_callee (f := 24) rfl ?_); refine goesL_ (some 18) rfl rfl Try.func24 oK rfl #[.agg #[.int .i64 ((rd_T36 l0 aA).f0), .int .i64 ((rd_T36 l0 aA).f1)]] rfl oA ?_; (with_reducible refine (spec_BitOk.calls ((rd_T36 l0 aA).f0) ((rd_T36 l0 aA).f1) false _ A7.out).mono ?_); rintro e fW ⟨rfl, hb⟩; refine ⟨_, rfl, ?_⟩; have n_ := o2_ (Kd.R_below (oR aE) hb) (o1_ (below_step (oB HB) hb)); clear aE HB; obtain ⟨aE, HB⟩ := n_; (try clear hb); (try clear hb2); (try clear hk); (try clear hi)))
       go_meet
       case rel => exact ⟨_, (true), oU, H', ⟨(by have := HK1.out; first | omega | exact Nat.le_refl _)⟩, ⟨(oR aE)⟩, ⟨(oB HB)⟩⟩
     ·rw [if_neg c6] at H
      exact absurd H (by simp)
    case rest =>
     clear dO
     try clear c1
     try clear p1
     try clear q1
     try clear hx1
     try clear c2
     try clear p2
     try clear c4
     try clear bQ
     try clear c6
     try clear bK
     try clear c8
     try clear p11
     try clear q11
     try clear hx11
     try clear aI
     try clear aJ
     try clear bB
     try clear p2
     try clear bC
     obtain ⟨kq, bD, rfl, HA, cH, aE, HB⟩ := hcut
     cases kq with
     | zero => exact nomatch (show none = some _ from HA.out)
     | succ kj4 =>
      have H := HA.out
      clear HA
      simp only [spec_BitPut.j1] at H
      by_cases cT : bD = true
      ·subst cT
       rw [if_pos rfl] at H
       obtain ⟨y112, hy112⟩ : ∃ y_ : List Int, y_ = (([] : List Int)) := ⟨_, rfl⟩
       replace H : (some y112) = some r := by first | (rw [hy112]; with_reducible exact H) | (have H2_ := (Option.bind_some _ _).symm.trans H; rw [hy112]; with_reducible exact H2_) | (have H2_ := (Option.bind_some _ _).symm.trans H; with_reducible exact H2_) | with_reducible exact H | (rw [hy112]; exact H) | exact H
       have bN := Aside0.mk hy112
       clear hy112
       obtain rfl := Option.some.inj H
       go_wp2_with (first | ((with_reducible refine gate_dst (N := 25) rfl ?_); (try (refine gate_guard (by rfl) ?_; dsimp only)); refine Kd.R_lit (Kd.int .u8) _ 5 ?hg (N := 25) ?hd (xs := ([] : List Int)) (inner := []) (ok := fun _ => True) (okp := fun _ => True) ?hr ?hp (fun _ hk => hk) trivial (Below.refl _ _) (Nat.le_refl _) (by simp) ?_; (case hd => rfl); (case hg => rfl); (case hr => first | (go_simp; done) | (go_simp; rfl)); (case hp => exact (Reps.none _ _)); intro fR fX ho14 hb hg_ hnew_; clear hg_ hnew_; (first | rw [← bN.out] at ho14 | (simp only [Int.reduceToNat] at ho14; rw [← bN.out] at ho14)); have n_ := o2_ (Kd.R_elder' (oR aE) (Kd.R_base ho14) hb) (o2_ (Kd.R_lower (Kd.R_new' ho14 (Kd.R_lt (oR aE))) (below_size (oB HB))) (o1_ (below_step (oB HB) hb))); clear aE HB; obtain ⟨aE, cM, HB⟩ := n_; clear hb ho14))
       go_ret
       exact ⟨_, by first | rfl | (simp [errW_none, errW_some] <;> rfl) | (simp [*, errW_none, errW_some] <;> rfl), by (with_reducible repeat (first | apply Kd.R_alloc | apply Kd.R_drewN | apply Kd.R_drew)); exact Kd.R_mono cM.out (fun _ hk => trivial), oB HB⟩
      ·replace cT := Bool.eq_false_iff.mpr cT
       subst cT
       rw [if_neg (show ¬ (false = true) by decide)] at H
       have H' := Aside0.mk H
       clear H
       go_wp2
       go_loopg [3, 4, 6] kj4 (fun kq v3 v4 v6 w' => ∃ (aK : List Int) (aC : Int) (aD : Int), v4 = .int .i64 aC ∧ v6 = .int .i64 aD ∧ Aside0 (spec_BitPut.l1 kq l0 aK aC aA aD = some r) ∧ Aside0 (kq ≤ kj4) ∧ Aside0 (Kd.R (Kd.int .u8) 5 w' w.heap.size (fun _ => True) v3 aK) ∧ Aside0 (Below w.heap.size w w'))
       case atStart => exact ⟨(aW), (bJ), (0), oU, oU, H', ⟨Nat.le_refl _⟩, ⟨(oR aE)⟩, ⟨(oB HB)⟩⟩
       case round =>
        clear H'
        try clear c1
        try clear p1
        try clear q1
        try clear hx1
        try clear c2
        try clear p2
        try clear c4
        try clear bQ
        try clear c6
        try clear bK
        try clear c8
        try clear p11
        try clear q11
        try clear hx11
        try clear cT
        try clear c14
        try clear aI
        try clear aJ
        try clear p1
        try clear p11
        try clear bB
        try clear p2
        try clear q1
        try clear q11
        try clear bC
        obtain ⟨aK, aC, aD, rfl, rfl, HA, HK3, aE, HB⟩ := hrel
        cases gk with
        | zero => exact nomatch (show none = some _ from HA.out)
        | succ k3 =>
         have H := HA.out
         clear HA
         simp only [spec_BitPut.l1] at H
         by_cases dH : 0 ≤ aA
         ·rw [if_pos dH] at H
          have eN : decide (0 ≤ aA) = true := decide_eq_true dH
          clear dH
          by_cases dI : aA < (l0.length : Int)
          ·rw [if_pos dI] at H
           have eO : decide (aA < (l0.length : Int)) = true := decide_eq_true dI
           clear dI
           by_cases cI : aD < ((rd_T36 l0 aA).f1)
           ·rw [if_pos cI] at H
            have cU : decide (aD < ((rd_T36 l0 aA).f1)) = true := decide_eq_true cI
            clear cI
            by_cases bP : (Int.tmod aC 8) = 0
            ·rw [if_pos bP] at H
             have bE : ((Int.tmod aC 8) == 0) = true := beq_iff_eq.mpr bP
             have bF : ((Int.tmod aC 8) != 0) = false := bne_eq_false_iff_eq.mpr bP
             clear bP
             by_cases dJ : aK.length < 140737488355328
             ·rw [if_pos dJ] at H
              have LMc19 := Aside0.mk dJ
              clear dJ
              obtain ⟨aM, hy116⟩ : ∃ y_ : List Int, y_ = (aK ++ [0]) := ⟨_, rfl⟩
              replace H : (if 0 ≤ (wrap64 (Int.tdiv aC 8)) then (if (wrap64 (Int.tdiv aC 8)) < (aM.length : Int) then (if 0 ≤ aD then (if 0 ≤ (Int.tmod aC 8) then (spec_BitPut.l1 k3 l0 (aM.set ((wrap64 (Int.tdiv aC 8)) : Int).toNat (((rd aM (wrap64 (Int.tdiv aC 8))) + ((shl .i64 (Int.tmod (shr .i64 ((rd_T36 l0 aA).f0) aD) 2) (Int.tmod aC 8)) % 256)) % 256)) (wrap64 (aC + 1)) aA (wrap64 (aD + 1))) else (none)) else (none)) else (none)) else (none)) = some r := by first | (rw [hy116]; with_reducible exact H) | (have H2_ := (Option.bind_some _ _).symm.trans H; rw [hy116]; with_reducible exact H2_) | (have H2_ := (Option.bind_some _ _).symm.trans H; with_reducible exact H2_) | with_reducible exact H | (rw [hy116]; exact H) | exact H
              have cN := Aside0.mk hy116
              clear hy116
              obtain ⟨ji20, hji20⟩ : ∃ j_ : Int, (wrap64 (Int.tdiv aC 8)) = j_ := ⟨_, rfl⟩
              replace H : (if 0 ≤ (ji20) then (if (ji20) < (aM.length : Int) then (if 0 ≤ aD then (if 0 ≤ (Int.tmod aC 8) then (spec_BitPut.l1 k3 l0 (aM.set ((ji20) : Int).toNat (((rd aM (ji20)) + ((shl .i64 (Int.tmod (shr .i64 ((rd_T36 l0 aA).f0) aD) 2) (Int.tmod aC 8)) % 256)) % 256)) (wrap64 (aC + 1)) aA (wrap64 (aD + 1))) else (none)) else (none)) else (none)) else (none)) = some r := by first | (rw [hji20] at H; exact H) | (simp only [hji20] at H ⊢; exact H)
              have dY : (IntKind.i64.wrap (Int.tdiv aC 8)) = ji20 := (i64_w _).trans hji20
              by_cases dK : 0 ≤ (ji20)
              ·rw [if_pos dK] at H
               have eP : decide (0 ≤ (ji20)) = true := decide_eq_true dK
               clear dK
               by_cases dL : (ji20) < (aM.length : Int)
               ·rw [if_pos dL] at H
                have eQ : decide ((ji20) < (aM.length : Int)) = true := decide_eq_true dL
                clear dL
                by_cases cV : 0 ≤ aD
                ·rw [if_pos cV] at H
                 have eR := eq_true cV
                 have eS : decide (0 ≤ aD) = true := decide_eq_true cV
                 clear cV
                 obtain ⟨ji24, hji24⟩ : ∃ j_ : Int, (shr .i64 ((rd_T36 l0 aA).f0) aD) = j_ := ⟨_, rfl⟩
                 replace H : (if 0 ≤ (Int.tmod aC 8) then (spec_BitPut.l1 k3 l0 (aM.set ((ji20) : Int).toNat (((rd aM (ji20)) + ((shl .i64 (Int.tmod (ji24) 2) (Int.tmod aC 8)) % 256)) % 256)) (wrap64 (aC + 1)) aA (wrap64 (aD + 1))) else (none)) = some r := by first | (rw [hji24] at H; exact H) | (simp only [hji24] at H ⊢; exact H)
                 have dZ : (((rd_T36 l0 aA).f0) / 2 ^ min aD.toNat 64) = ji24 := hji24
                 have eA : aD ≤ 64 → (((rd_T36 l0 aA).f0) / 2 ^ aD.toNat) = ji24 := shr_small hji24
                 obtain ⟨ji25, hji25⟩ : ∃ j_ : Int, (Int.tmod aC 8) = j_ := ⟨_, rfl⟩
                 replace H : (if 0 ≤ (ji25) then (spec_BitPut.l1 k3 l0 (aM.set ((ji20) : Int).toNat (((rd aM (ji20)) + ((shl .i64 (Int.tmod (ji24) 2) (ji25)) % 256)) % 256)) (wrap64 (aC + 1)) aA (wrap64 (aD + 1))) else (none)) = some r := by first | (rw [hji25] at H; exact H) | (simp only [hji25] at H ⊢; exact H)
                 (try rw [hji25] at bE)
                 (try rw [hji25] at bF)
                 by_cases cW : 0 ≤ (ji25)
                 ·rw [if_pos cW] at H
                  have eT := eq_true cW
                  have eU : decide (0 ≤ (ji25)) = true := decide_eq_true cW
                  clear cW
                  obtain ⟨ji27, hji27⟩ : ∃ j_ : Int, (shl .i64 (Int.tmod (ji24) 2) (ji25)) = j_ := ⟨_, rfl⟩
                  replace H : (spec_BitPut.l1 k3 l0 (aM.set ((ji20) : Int).toNat (((rd aM (ji20)) + ((ji27) % 256)) % 256)) (wrap64 (aC + 1)) aA (wrap64 (aD + 1))) = some r := by first | (rw [hji27] at H; exact H) | (simp only [hji27] at H ⊢; exact H)
                  have bS : (IntKind.i64.wrap ((Int.tmod (ji24) 2) * 2 ^ min (ji25).toNat 64)) = ji27 := hji27
                  have bT : (ji25) ≤ 64 → (IntKind.i64.wrap ((Int.tmod (ji24) 2) * 2 ^ (ji25).toNat)) = ji27 := shl_small hji27
                  have eB : (wrap64 ((Int.tmod (ji24) 2) * 2 ^ min (ji25).toNat 64)) = ji27 := (i64_w _).symm.trans bS
                  have bH : (ji25) ≤ 64 → (wrap64 ((Int.tmod (ji24) 2) * 2 ^ (ji25).toNat)) = ji27 := fun h_ => (i64_w _).symm.trans (bT h_)
                  obtain ⟨y121, hy121⟩ : ∃ y_ : List Int, y_ = (aM.set ((ji20) : Int).toNat (((rd aM (ji20)) + ((ji27) % 256)) % 256)) := ⟨_, rfl⟩
                  replace H : (spec_BitPut.l1 k3 l0 y121 (wrap64 (aC + 1)) aA (wrap64 (aD + 1))) = some r := by first | (rw [hy121]; with_reducible exact H) | (have H2_ := (Option.bind_some _ _).symm.trans H; rw [hy121]; with_reducible exact H2_) | (have H2_ := (Option.bind_some _ _).symm.trans H; with_reducible exact H2_) | with_reducible exact H | (rw [hy121]; exact H) | exact H
                  have cO := Aside0.mk hy121
                  clear hy121
                  have H' := Aside0.mk H
                  clear H
                  have aX : 0 ≤ (aA : Int) := of_decide_eq_true oM
                  have aY : aA < (l0.length : Int) := of_decide_eq_true oM
                  obtain ⟨aN, bG, aG, aH⟩ := at_T36 bO.out aA aX aY
                  cases bG
                  replace aG := (HB.out.cell (World.block_lt_of_cell? w _ aG)).trans aG
                  replace aH := (HB.out.cell (World.block_lt_of_cell? w _ aH)).trans aH
                  replace aX := eq_true aX
                  replace aY := eq_true aY
                  try go_wp2_with (first | ((with_reducible refine gate_builtin (b := .append) (xs := #[.tmp 38, .tmp 39]) rfl ?_); (try (refine gate_guard (by rfl) ?_; dsimp only)); at_builtin; refine Kd.R_append (Kd.int .u8) (w0 := w) w.heap.size rfl (.tmp 38) (.tmp 39) 24 5 (.int .u8 0) 1 rfl Try.underlying24 info5 rfl oD (by omega) u3 aK 0 [.int .u8 0] (fun _ => True) (fun _ => False) rfl rfl ?aP (fun _ hk => hk.elim) ?aF ?aO ?aB ?aS ?aL ?_; (case aP => exact rfl); (case aB => exact (oB HB)); (case aF => exact (fun _ _ => trivial)); (case aO => exact (oR aE)); (case aS => exact (below_size (oB HB))); (case aL => have := LMc19.out; omega); intro fS fU ho hb hg hat; rw [← cN.out] at ho; have n_ := o2_ (hb) (o1_ (ho)); clear HB aE; obtain ⟨HB, aQ⟩ := n_; clear ho hb hg hat))
                  have n_ := o2_ (Kd.R_drew aQ.out) (o1_ (below_drew1 HB.out))
                  clear aQ HB
                  obtain ⟨aQ, HB⟩ := n_
                  obtain ⟨fE, fK, dC⟩ := Kd.R_slice aQ.out
                  (first | subst dC | (injection dC with f1_ f2_ f3_; have f4_ := f1_.symm; have f5_ := f3_.symm; clear f1_ f2_ f3_; subst f4_; subst f5_))
                  have bY : 0 ≤ ((ji20) : Int) := of_decide_eq_true oM
                  have cC : (ji20) < (aM.length : Int) := of_decide_eq_true oM
                  obtain ⟨eL, dP, aZ⟩ := Kd.at_int (Kd.R_reads' aQ.out).2.2 (ji20) bY cC
                  cases dP
                  replace bY := eq_true bY
                  replace cC := eq_true cC
                  have bZ : 0 ≤ (aA : Int) := of_decide_eq_true oM
                  have cD : aA < (l0.length : Int) := of_decide_eq_true oM
                  obtain ⟨cR, dQ, aR, aT⟩ := at_T36 bO.out aA bZ cD
                  have hw120_1 := aT
                  have hw120_0 := aR
                  obtain rfl : aN = cR := (by injection dQ)
                  replace aR := (HB.out.cell (World.block_lt_of_cell? w _ aR)).trans aR
                  replace aT := (HB.out.cell (World.block_lt_of_cell? w _ aT)).trans aT
                  replace bZ := eq_true bZ
                  replace cD := eq_true cD
                  have eG : 0 ≤ ((ji20) : Int) := of_decide_eq_true oM
                  have eI : ((ji20) : Int) < ((aM.length : Int) : Int) := of_decide_eq_true oM
                  obtain ⟨dW, fJ, dB, dF, gl28, cl28, HG28⟩ := Kd.R_form aQ.out (by omega)
                  (first | cases dB | (injection dB with ea_ en_ ec_; (first | subst ea_ | (injection ea_ with ea_; subst ea_)); subst ec_; clear en_))
                  have GB28 := Aside0.mk dF
                  have GG28 := Aside0.mk HG28
                  clear dF gl28 HG28
                  (first | simp only [add_plain] at aZ | skip)
                  obtain ⟨bW, hf28_0⟩ := Kd.R_celln 0 aQ.out ((ji20) : Int) eG eI
                  replace eG := eq_true eG
                  replace eI := eq_true eI
                  have HP32 := Kd.R_putn aQ.out ((ji20) : Int) (((rd aM (ji20)) + ((ji27) % 256)) % 256)
                  rw [← cO.out] at HP32
                  have HQ32 := Aside0.mk HP32
                  clear HP32
                  refine start_ (n := 23) (S := fun w' => w'.cell? ⟨dW, ((ji20)).toNat, none⟩ = some (.int .u8 (rd aM (ji20))) ∧ w'.cell? (aN.add ((aA).toNat * 2)) = some (.int .i64 ((rd_T36 l0 aA).f0)) ∧ w'.cell? ⟨(aN.add ((aA).toNat * 2)).block, (aN.add ((aA).toNat * 2)).off + 1, none⟩ = some (.int .i64 ((rd_T36 l0 aA).f1))) (ds := [22]) #[false, false, false, false, false, false, false, false, false, false, false, false, false, false, false, false, false, false, false, false, false, false, false] oK rfl rfl ⟨aZ, ((HB.out.cell (World.block_lt_of_cell? w _ hw120_0)).trans hw120_0), ((HB.out.cell (World.block_lt_of_cell? w _ hw120_1)).trans hw120_1)⟩ (fun hHeld => ?_); refine with_tabW spec_BitPut.tab13 spec_BitPut.bits13 (fun HT_ HW_ => ?_)
                  generalize fU.drew = fY at aQ HB GG28 HQ32 hf28_0 aZ aR aT bW hHeld ⊢
                  refine pure_ (i := 0) (N := some 41) (v := ?_) (a' := ?_) #[true, false, false, false, false, false, false, false, false, false, false, false, false, false, false, false, false, false, false, false, false, false, false] rfl rfl (any_of HT_.out oK) (fun _ _ _ h => h) (Or.inl ⟨by rfl, ?_⟩) ?_ ?_
                  rotate_left
                  ·intro w'
                   go_simp
                   with_reducible rfl
                  rotate_left
                  ·exact oT
                  refine pure_ (i := 1) (N := some 42) (v := ?_) (a' := ?_) #[true, true, false, false, false, false, false, false, false, false, false, false, false, false, false, false, false, false, false, false, false, false, false] rfl rfl (any_of HT_.out oK) (fun _ _ _ h => h) (Or.inl ⟨by rfl, ?_⟩) ?_ ?_
                  rotate_left
                  ·intro w'
                   go_simp
                   with_reducible rfl
                  rotate_left
                  ·exact oT
                  refine pure_ (i := 2) (N := some 43) (v := ?_) (a' := ?_) #[true, true, true, false, false, false, false, false, false, false, false, false, false, false, false, false, false, false, false, false, false, false, false] rfl rfl (any_of HT_.out oK) (fun _ _ _ h => h) (Or.inl ⟨by rfl, ?_⟩) ?_ ?_
                  rotate_left
                  ·intro w'
                   go_simp
                   with_reducible rfl
                  rotate_left
                  ·exact oT
                  refine pure_ (i := 3) (N := some 44) (v := ?_) (a' := ?_) #[true, true, true, true, false, false, false, false, false, false, false, false, false, false, false, false, false, false, false, false, false, false, false] rfl rfl (any_of HT_.out oK) (fun _ _ _ h => h) (Or.inl ⟨by rfl, ?_⟩) ?_ ?_
                  rotate_left
                  ·intro w'
                   go_simp
                   with_reducible rfl
                  rotate_left
                  ·exact oT
                  refine pure_ (i := 4) (N := some 45) (v := ?_) (a' := ?_) #[true, true, true, true, true, false, false, false, false, false, false, false, false, false, false, false, false, false, false, false, false, false, false] rfl rfl (any_of HT_.out oK) (fun _ _ _ h => h) (Or.inl ⟨by rfl, ?_⟩) ?_ ?_
                  rotate_left
                  ·intro w'
                   go_simp
                   with_reducible rfl
                  rotate_left
                  ·exact oT
                  refine pure_ (i := 5) (N := some 46) (v := ?_) (a' := ?_) #[true, true, true, true, true, true, false, false, false, false, false, false, false, false, false, false, false, false, false, false, false, false, false] rfl rfl (any_of HT_.out oK) (fun _ _ _ h => h) (Or.inl ⟨by rfl, ?_⟩) ?_ ?_
                  rotate_left
                  ·intro w'
                   go_simp
                   with_reducible rfl
                  rotate_left
                  ·exact oT
                  refine pure_ (i := 6) (N := some 47) (v := ?_) (a' := ?_) #[true, true, true, true, true, true, true, false, false, false, false, false, false, false, false, false, false, false, false, false, false, false, false] rfl rfl (any_of HT_.out oK) (fun _ _ _ h => h) (Or.inl ⟨by rfl, ?_⟩) ?_ ?_
                  rotate_left
                  ·intro w'
                   go_simp
                   with_reducible rfl
                  rotate_left
                  ·exact oT
                  refine pure_ (i := 8) (N := some 49) (v := ?_) (a' := ?_) #[true, true, true, true, true, true, true, false, true, false, false, false, false, false, false, false, false, false, false, false, false, false, false] rfl rfl (any_of HT_.out oK) (fun _ _ _ h => h) (Or.inl ⟨by rfl, ?_⟩) ?_ ?_
                  rotate_left
                  ·intro w'
                   go_simp
                   with_reducible rfl
                  rotate_left
                  ·exact oT
                  refine pure_ (i := 9) (N := some 50) (v := ?_) (a' := ?_) #[true, true, true, true, true, true, true, false, true, true, false, false, false, false, false, false, false, false, false, false, false, false, false] rfl rfl (any_of HT_.out oK) (fun _ _ _ h => h) (Or.inl ⟨by rfl, ?_⟩) ?_ ?_
                  rotate_left
                  ·intro w'
                   go_simp
                   with_reducible rfl
                  rotate_left
                  ·exact oT
                  refine pure_ (i := 10) (N := some 51) (v := ?_) (a' := ?_) #[true, true, true, true, true, true, true, false, true, true, true, false, false, false, false, false, false, false, false, false, false, false, false] rfl rfl (any_of HT_.out oK) (fun _ _ _ h => h) (Or.inl ⟨by rfl, ?_⟩) ?_ ?_
                  rotate_left
                  ·intro w'
                   go_simp
                   with_reducible rfl
                  rotate_left
                  ·exact oT
                  refine pure_ (i := 11) (N := some 52) (v := ?_) (a' := ?_) #[true, true, true, true, true, true, true, false, true, true, true, true, false, false, false, false, false, false, false, false, false, false, false] rfl rfl (any_of HT_.out oK) (fun _ _ _ h => h) (Or.inl ⟨by rfl, ?_⟩) ?_ ?_
                  rotate_left
                  ·intro w'
                   go_simp
                   with_reducible rfl
                  rotate_left
                  ·exact oT
                  refine pure_ (i := 13) (N := some 54) (v := ?_) (a' := ?_) #[true, true, true, true, true, true, true, false, true, true, true, true, false, true, false, false, false, false, false, false, false, false, false] rfl rfl (any_of HT_.out oK) (fun _ _ _ h => h) (Or.inl ⟨by rfl, ?_⟩) ?_ ?_
                  rotate_left
                  ·intro w'
                   go_simp
                   with_reducible rfl
                  rotate_left
                  ·exact oT
                  refine pure_ (i := 16) (N := some 57) (v := ?_) (a' := ?_) #[true, true, true, true, true, true, true, false, true, true, true, true, false, true, false, false, true, false, false, false, false, false, false] rfl rfl (any_of HT_.out oK) (fun _ _ _ h => h) (Or.inl ⟨by rfl, ?_⟩) ?_ ?_
                  rotate_left
                  ·intro w'
                   go_simp
                   with_reducible rfl
                  rotate_left
                  ·exact oT
                  refine pure_ (i := 17) (N := some 58) (v := ?_) (a' := ?_) #[true, true, true, true, true, true, true, false, true, true, true, true, false, true, false, false, true, true, false, false, false, false, false] rfl rfl (any_of HT_.out oK) (fun _ _ _ h => h) (Or.inl ⟨by rfl, ?_⟩) ?_ ?_
                  rotate_left
                  ·intro w'
                   go_simp
                   with_reducible rfl
                  rotate_left
                  ·exact oT
                  refine take_ (i := 7) (N := some 48) (v := ?_) (a' := ?_) #[true, true, true, true, true, true, true, true, true, true, true, true, false, true, false, false, true, true, false, false, false, false, false] rfl rfl (take_ofW HT_.out HW_.out oK) (fun _ _ _ h => h) (Or.inl ⟨by rfl, ?_⟩) hHeld ?_ ?_
                  rotate_left
                  ·rintro w' ⟨s0, s1, s2⟩
                   go_simp
                   with_reducible rfl
                  rotate_left
                  ·exact oT
                  refine take_ (i := 12) (N := some 53) (v := ?_) (a' := ?_) #[true, true, true, true, true, true, true, true, true, true, true, true, true, true, false, false, true, true, false, false, false, false, false] rfl rfl (take_ofW HT_.out HW_.out oK) (fun _ _ _ h => h) (Or.inl ⟨by rfl, ?_⟩) hHeld ?_ ?_
                  rotate_left
                  ·rintro w' ⟨s0, s1, s2⟩
                   go_simp
                   with_reducible rfl
                  rotate_left
                  ·exact oT
                  refine pure_ (i := 14) (N := some 55) (v := ?_) (a' := ?_) #[true, true, true, true, true, true, true, true, true, true, true, true, true, true, true, false, true, true, false, false, false, false, false] rfl rfl (any_of HT_.out oK) (fun _ _ _ h => h) (Or.inl ⟨by rfl, ?_⟩) ?_ ?_
                  rotate_left
                  ·intro w'
                   go_simp
                   with_reducible rfl
                  rotate_left
                  ·exact oT
                  refine pure_ (i := 15) (N := some 56) (v := ?_) (a' := ?_) #[true, true, true, true, true, true, true, true, true, true, true, true, true, true, true, true, true, true, false, false, false, false, false] rfl rfl (any_of HT_.out oK) (fun _ _ _ h => h) (Or.inl ⟨by rfl, ?_⟩) ?_ ?_
                  rotate_left
                  ·intro w'
                   go_simp
                   with_reducible rfl
                  rotate_left
                  ·exact oT
                  refine pure_ (i := 18) (N := some 59) (v := ?_) (a' := ?_) #[true, true, true, true, true, true, true, true, true, true, true, true, true, true, true, true, true, true, true, false, false, false, false] rfl rfl (any_of HT_.out oK) (fun _ _ _ h => h) (Or.inl ⟨by rfl, ?_⟩) ?_ ?_
                  rotate_left
                  ·intro w'
                   go_simp
                   with_reducible rfl
                  rotate_left
                  ·exact oT
                  refine pure_ (i := 19) (N := some 60) (v := ?_) (a' := ?_) #[true, true, true, true, true, true, true, true, true, true, true, true, true, true, true, true, true, true, true, true, false, false, false] rfl rfl (any_of HT_.out oK) (fun _ _ _ h => h) (Or.inl ⟨by rfl, ?_⟩) ?_ ?_
                  rotate_left
                  ·intro w'
                   go_simp
                   with_reducible rfl
                  rotate_left
                  ·exact oT
                  refine pure_ (i := 20) (N := some 61) (v := ?_) (a' := ?_) #[true, true, true, true, true, true, true, true, true, true, true, true, true, true, true, true, true, true, true, true, true, false, false] rfl rfl (any_of HT_.out oK) (fun _ _ _ h => h) (Or.inl ⟨by rfl, ?_⟩) ?_ ?_
                  rotate_left
                  ·intro w'
                   go_simp
                   with_reducible rfl
                  rotate_left
                  ·exact oT
                  refine pure_ (i := 21) (N := some 62) (v := ?_) (a' := ?_) #[true, true, true, true, true, true, true, true, true, true, true, true, true, true, true, true, true, true, true, true, true, true, false] rfl rfl (any_of HT_.out oK) (fun _ _ _ h => h) (Or.inl ⟨by rfl, ?_⟩) ?_ ?_
                  rotate_left
                  ·intro w'
                   go_simp
                   with_reducible rfl
                  rotate_left
                  ·exact oT
                  refine last_ (i := 22) (N := none) #[true, true, true, true, true, true, true, true, true, true, true, true, true, true, true, true, true, true, true, true, true, true, true] rfl rfl (one_of HT_.out oK) oD (fun K hK => ?_)
                  refine skip_ (w1 := ?_) (by rfl) rfl ?_ ?_
                  rotate_left
                  ·go_simp
                   rfl
                  refine hK.out _ _ ?_
                  clear hK K
                  refine done_ (done_of HT_.out oK) ?_
                  try go_wp2
                  go_roundg k3
                  case measure => have := HK1.out; have := cH.out; have := HK3.out; omega
                  case rel => exact ⟨(y121), (wrap64 (aC + 1)), (wrap64 (aD + 1)), oU, oU, H', ⟨(by have := HK1.out; have := cH.out; have := HK3.out; omega)⟩, ⟨(by (with_reducible repeat (first | apply Kd.R_alloc | apply Kd.R_drewN | apply Kd.R_drew)); (first | exact HQ32.out | (rw [bH (by have := Int.tmod_lt_of_pos aC (show (0 : Int) < 8 by decide); omega)]; exact HQ32.out) | (rw [bH (by have := Int.tmod_lt_of_pos aC (show (0 : Int) < 8 by decide); omega)]; have hz_ := HQ32.out; rw [Int.add_emod_emod] at hz_; exact hz_) | (have hz_ := HQ32.out; rw [Int.add_emod_emod] at hz_; exact hz_)))⟩, ⟨(oB HB)⟩⟩
                 ·rw [if_neg cW] at H
                  exact absurd H (by simp)
                ·rw [if_neg cV] at H
                 exact absurd H (by simp)
               ·rw [if_neg dL] at H
                exact absurd H (by simp)
              ·rw [if_neg dK] at H
               exact absurd H (by simp)
             ·rw [if_neg dJ] at H
              exact absurd H (by simp)
            ·rw [if_neg bP] at H
             have bE : ((Int.tmod aC 8) == 0) = false := beq_eq_false_iff_ne.mpr bP
             have bF : ((Int.tmod aC 8) != 0) = true := bne_iff_ne.mpr bP
             obtain ⟨ji33, hji33⟩ : ∃ j_ : Int, (wrap64 (Int.tdiv aC 8)) = j_ := ⟨_, rfl⟩
             replace H : (if 0 ≤ (ji33) then (if (ji33) < (aK.length : Int) then (if 0 ≤ aD then (if 0 ≤ (Int.tmod aC 8) then (spec_BitPut.l1 k3 l0 (aK.set ((ji33) : Int).toNat (((rd aK (ji33)) + ((shl .i64 (Int.tmod (shr .i64 ((rd_T36 l0 aA).f0) aD) 2) (Int.tmod aC 8)) % 256)) % 256)) (wrap64 (aC + 1)) aA (wrap64 (aD + 1))) else (none)) else (none)) else (none)) else (none)) = some r := by first | (rw [hji33] at H; exact H) | (simp only [hji33] at H ⊢; exact H)
             have eC : (IntKind.i64.wrap (Int.tdiv aC 8)) = ji33 := (i64_w _).trans hji33
             by_cases dM : 0 ≤ (ji33)
             ·rw [if_pos dM] at H
              have eV : decide (0 ≤ (ji33)) = true := decide_eq_true dM
              clear dM
              by_cases dN : (ji33) < (aK.length : Int)
              ·rw [if_pos dN] at H
               have eW : decide ((ji33) < (aK.length : Int)) = true := decide_eq_true dN
               clear dN
               by_cases cX : 0 ≤ aD
               ·rw [if_pos cX] at H
                have eX := eq_true cX
                have eY : decide (0 ≤ aD) = true := decide_eq_true cX
                clear cX
                obtain ⟨ji37, hji37⟩ : ∃ j_ : Int, (shr .i64 ((rd_T36 l0 aA).f0) aD) = j_ := ⟨_, rfl⟩
                replace H : (if 0 ≤ (Int.tmod aC 8) then (spec_BitPut.l1 k3 l0 (aK.set ((ji33) : Int).toNat (((rd aK (ji33)) + ((shl .i64 (Int.tmod (ji37) 2) (Int.tmod aC 8)) % 256)) % 256)) (wrap64 (aC + 1)) aA (wrap64 (aD + 1))) else (none)) = some r := by first | (rw [hji37] at H; exact H) | (simp only [hji37] at H ⊢; exact H)
                have eD : (((rd_T36 l0 aA).f0) / 2 ^ min aD.toNat 64) = ji37 := hji37
                have eE : aD ≤ 64 → (((rd_T36 l0 aA).f0) / 2 ^ aD.toNat) = ji37 := shr_small hji37
                obtain ⟨ji38, hji38⟩ : ∃ j_ : Int, (Int.tmod aC 8) = j_ := ⟨_, rfl⟩
                replace H : (if 0 ≤ (ji38) then (spec_BitPut.l1 k3 l0 (aK.set ((ji33) : Int).toNat (((rd aK (ji33)) + ((shl .i64 (Int.tmod (ji37) 2) (ji38)) % 256)) % 256)) (wrap64 (aC + 1)) aA (wrap64 (aD + 1))) else (none)) = some r := by first | (rw [hji38] at H; exact H) | (simp only [hji38] at H ⊢; exact H)
                (try rw [hji38] at bE)
                (try rw [hji38] at bF)
                by_cases cY : 0 ≤ (ji38)
                ·rw [if_pos cY] at H
                 have eZ := eq_true cY
                 have fA : decide (0 ≤ (ji38)) = true := decide_eq_true cY
                 clear cY
                 obtain ⟨ji40, hji40⟩ : ∃ j_ : Int, (shl .i64 (Int.tmod (ji37) 2) (ji38)) = j_ := ⟨_, rfl⟩
                 replace H : (spec_BitPut.l1 k3 l0 (aK.set ((ji33) : Int).toNat (((rd aK (ji33)) + ((ji40) % 256)) % 256)) (wrap64 (aC + 1)) aA (wrap64 (aD + 1))) = some r := by first | (rw [hji40] at H; exact H) | (simp only [hji40] at H ⊢; exact H)
                 have bU : (IntKind.i64.wrap ((Int.tmod (ji37) 2) * 2 ^ min (ji38).toNat 64)) = ji40 := hji40
                 have bV : (ji38) ≤ 64 → (IntKind.i64.wrap ((Int.tmod (ji37) 2) * 2 ^ (ji38).toNat)) = ji40 := shl_small hji40
                 have eF : (wrap64 ((Int.tmod (ji37) 2) * 2 ^ min (ji38).toNat 64)) = ji40 := (i64_w _).symm.trans bU
                 have bI : (ji38) ≤ 64 → (wrap64 ((Int.tmod (ji37) 2) * 2 ^ (ji38).toNat)) = ji40 := fun h_ => (i64_w _).symm.trans (bV h_)
                 obtain ⟨y124, hy124⟩ : ∃ y_ : List Int, y_ = (aK.set ((ji33) : Int).toNat (((rd aK (ji33)) + ((ji40) % 256)) % 256)) := ⟨_, rfl⟩
                 replace H : (spec_BitPut.l1 k3 l0 y124 (wrap64 (aC + 1)) aA (wrap64 (aD + 1))) = some r := by first | (rw [hy124]; with_reducible exact H) | (have H2_ := (Option.bind_some _ _).symm.trans H; rw [hy124]; with_reducible exact H2_) | (have H2_ := (Option.bind_some _ _).symm.trans H; with_reducible exact H2_) | with_reducible exact H | (rw [hy124]; exact H) | exact H
                 have cP := Aside0.mk hy124
                 clear hy124
                 have H' := Aside0.mk H
                 clear H
                 have aX : 0 ≤ (aA : Int) := of_decide_eq_true oM
                 have aY : aA < (l0.length : Int) := of_decide_eq_true oM
                 obtain ⟨aN, bG, aG, aH⟩ := at_T36 bO.out aA aX aY
                 cases bG
                 replace aG := (HB.out.cell (World.block_lt_of_cell? w _ aG)).trans aG
                 replace aH := (HB.out.cell (World.block_lt_of_cell? w _ aH)).trans aH
                 replace aX := eq_true aX
                 replace aY := eq_true aY
                 try go_wp2
                 have n_ := o2_ (Kd.R_drew aE.out) (o1_ (below_drew1 HB.out))
                 clear aE HB
                 obtain ⟨aE, HB⟩ := n_
                 obtain ⟨fF, fM, dE⟩ := Kd.R_slice aE.out
                 (first | subst dE | (injection dE with f1_ f2_ f3_; have f4_ := f1_.symm; have f5_ := f3_.symm; clear f1_ f2_ f3_; subst f4_; subst f5_))
                 have cA : 0 ≤ ((ji33) : Int) := of_decide_eq_true oM
                 have cE : (ji33) < (aK.length : Int) := of_decide_eq_true oM
                 obtain ⟨eM, dR, bA⟩ := Kd.at_int (Kd.R_reads' aE.out).2.2 (ji33) cA cE
                 cases dR
                 replace cA := eq_true cA
                 replace cE := eq_true cE
                 have cB : 0 ≤ (aA : Int) := of_decide_eq_true oM
                 have cF : aA < (l0.length : Int) := of_decide_eq_true oM
                 obtain ⟨cS, dS, aU, aV⟩ := at_T36 bO.out aA cB cF
                 have hw123_1 := aV
                 have hw123_0 := aU
                 obtain rfl : aN = cS := (by injection dS)
                 replace aU := (HB.out.cell (World.block_lt_of_cell? w _ aU)).trans aU
                 replace aV := (HB.out.cell (World.block_lt_of_cell? w _ aV)).trans aV
                 replace cB := eq_true cB
                 replace cF := eq_true cF
                 have eH : 0 ≤ ((ji33) : Int) := of_decide_eq_true oM
                 have eJ : ((ji33) : Int) < ((aK.length : Int) : Int) := of_decide_eq_true oM
                 obtain ⟨dX, fL, dD, dG, gl41, cl41, HG41⟩ := Kd.R_form aE.out (by omega)
                 (first | cases dD | (injection dD with ea_ en_ ec_; (first | subst ea_ | (injection ea_ with ea_; subst ea_)); subst ec_; clear en_))
                 have GB41 := Aside0.mk dG
                 have GG41 := Aside0.mk HG41
                 clear dG gl41 HG41
                 (first | simp only [add_plain] at bA | skip)
                 obtain ⟨bX, hf41_0⟩ := Kd.R_celln 0 aE.out ((ji33) : Int) eH eJ
                 replace eH := eq_true eH
                 replace eJ := eq_true eJ
                 have HP44 := Kd.R_putn aE.out ((ji33) : Int) (((rd aK (ji33)) + ((ji40) % 256)) % 256)
                 rw [← cP.out] at HP44
                 have HQ44 := Aside0.mk HP44
                 clear HP44
                 refine start_ (n := 23) (S := fun w' => w'.cell? ⟨dX, ((ji33)).toNat, none⟩ = some (.int .u8 (rd aK (ji33))) ∧ w'.cell? (aN.add ((aA).toNat * 2)) = some (.int .i64 ((rd_T36 l0 aA).f0)) ∧ w'.cell? ⟨(aN.add ((aA).toNat * 2)).block, (aN.add ((aA).toNat * 2)).off + 1, none⟩ = some (.int .i64 ((rd_T36 l0 aA).f1))) (ds := [22]) #[false, false, false, false, false, false, false, false, false, false, false, false, false, false, false, false, false, false, false, false, false, false, false] oK rfl rfl ⟨bA, ((HB.out.cell (World.block_lt_of_cell? w _ hw123_0)).trans hw123_0), ((HB.out.cell (World.block_lt_of_cell? w _ hw123_1)).trans hw123_1)⟩ (fun hHeld => ?_); refine with_tabW spec_BitPut.tab13 spec_BitPut.bits13 (fun HT_ HW_ => ?_)
                 generalize wr.drew = fZ at aE HB GG41 HQ44 hf41_0 bA aU aV bX hHeld ⊢
                 refine pure_ (i := 0) (N := some 41) (v := ?_) (a' := ?_) #[true, false, false, false, false, false, false, false, false, false, false, false, false, false, false, false, false, false, false, false, false, false, false] rfl rfl (any_of HT_.out oK) (fun _ _ _ h => h) (Or.inl ⟨by rfl, ?_⟩) ?_ ?_
                 rotate_left
                 ·intro w'
                  go_simp
                  with_reducible rfl
                 rotate_left
                 ·exact oT
                 refine pure_ (i := 1) (N := some 42) (v := ?_) (a' := ?_) #[true, true, false, false, false, false, false, false, false, false, false, false, false, false, false, false, false, false, false, false, false, false, false] rfl rfl (any_of HT_.out oK) (fun _ _ _ h => h) (Or.inl ⟨by rfl, ?_⟩) ?_ ?_
                 rotate_left
                 ·intro w'
                  go_simp
                  with_reducible rfl
                 rotate_left
                 ·exact oT
                 refine pure_ (i := 2) (N := some 43) (v := ?_) (a' := ?_) #[true, true, true, false, false, false, false, false, false, false, false, false, false, false, false, false, false, false, false, false, false, false, false] rfl rfl (any_of HT_.out oK) (fun _ _ _ h => h) (Or.inl ⟨by rfl, ?_⟩) ?_ ?_
                 rotate_left
                 ·intro w'
                  go_simp
                  with_reducible rfl
                 rotate_left
                 ·exact oT
                 refine pure_ (i := 3) (N := some 44) (v := ?_) (a' := ?_) #[true, true, true, true, false, false, false, false, false, false, false, false, false, false, false, false, false, false, false, false, false, false, false] rfl rfl (any_of HT_.out oK) (fun _ _ _ h => h) (Or.inl ⟨by rfl, ?_⟩) ?_ ?_
                 rotate_left
                 ·intro w'
                  go_simp
                  with_reducible rfl
                 rotate_left
                 ·exact oT
                 refine pure_ (i := 4) (N := some 45) (v := ?_) (a' := ?_) #[true, true, true, true, true, false, false, false, false, false, false, false, false, false, false, false, false, false, false, false, false, false, false] rfl rfl (any_of HT_.out oK) (fun _ _ _ h => h) (Or.inl ⟨by rfl, ?_⟩) ?_ ?_
                 rotate_left
                 ·intro w'
                  go_simp
                  with_reducible rfl
                 rotate_left
                 ·exact oT
                 refine pure_ (i := 5) (N := some 46) (v := ?_) (a' := ?_) #[true, true, true, true, true, true, false, false, false, false, false, false, false, false, false, false, false, false, false, false, false, false, false] rfl rfl (any_of HT_.out oK) (fun _ _ _ h => h) (Or.inl ⟨by rfl, ?_⟩) ?_ ?_
                 rotate_left
                 ·intro w'
                  go_simp
                  with_reducible rfl
                 rotate_left
                 ·exact oT
                 refine pure_ (i := 6) (N := some 47) (v := ?_) (a' := ?_) #[true, true, true, true, true, true, true, false, false, false, false, false, false, false, false, false, false, false, false, false, false, false, false] rfl rfl (any_of HT_.out oK) (fun _ _ _ h => h) (Or.inl ⟨by rfl, ?_⟩) ?_ ?_
                 rotate_left
                 ·intro w'
                  go_simp
                  with_reducible rfl
                 rotate_left
                 ·exact oT
                 refine pure_ (i := 8) (N := some 49) (v := ?_) (a' := ?_) #[true, true, true, true, true, true, true, false, true, false, false, false, false, false, false, false, false, false, false, false, false, false, false] rfl rfl (any_of HT_.out oK) (fun _ _ _ h => h) (Or.inl ⟨by rfl, ?_⟩) ?_ ?_
                 rotate_left
                 ·intro w'
                  go_simp
                  with_reducible rfl
                 rotate_left
                 ·exact oT
                 refine pure_ (i := 9) (N := some 50) (v := ?_) (a' := ?_) #[true, true, true, true, true, true, true, false, true, true, false, false, false, false, false, false, false, false, false, false, false, false, false] rfl rfl (any_of HT_.out oK) (fun _ _ _ h => h) (Or.inl ⟨by rfl, ?_⟩) ?_ ?_
                 rotate_left
                 ·intro w'
                  go_simp
                  with_reducible rfl
                 rotate_left
                 ·exact oT
                 refine pure_ (i := 10) (N := some 51) (v := ?_) (a' := ?_) #[true, true, true, true, true, true, true, false, true, true, true, false, false, false, false, false, false, false, false, false, false, false, false] rfl rfl (any_of HT_.out oK) (fun _ _ _ h => h) (Or.inl ⟨by rfl, ?_⟩) ?_ ?_
                 rotate_left
                 ·intro w'
                  go_simp
                  with_reducible rfl
                 rotate_left
                 ·exact oT
                 refine pure_ (i := 11) (N := some 52) (v := ?_) (a' := ?_) #[true, true, true, true, true, true, true, false, true, true, true, true, false, false, false, false, false, false, false, false, false, false, false] rfl rfl (any_of HT_.out oK) (fun _ _ _ h => h) (Or.inl ⟨by rfl, ?_⟩) ?_ ?_
                 rotate_left
                 ·intro w'
                  go_simp
                  with_reducible rfl
                 rotate_left
                 ·exact oT
                 refine pure_ (i := 13) (N := some 54) (v := ?_) (a' := ?_) #[true, true, true, true, true, true, true, false, true, true, true, true, false, true, false, false, false, false, false, false, false, false, false] rfl rfl (any_of HT_.out oK) (fun _ _ _ h => h) (Or.inl ⟨by rfl, ?_⟩) ?_ ?_
                 rotate_left
                 ·intro w'
                  go_simp
                  with_reducible rfl
                 rotate_left
                 ·exact oT
                 refine pure_ (i := 16) (N := some 57) (v := ?_) (a' := ?_) #[true, true, true, true, true, true, true, false, true, true, true, true, false, true, false, false, true, false, false, false, false, false, false] rfl rfl (any_of HT_.out oK) (fun _ _ _ h => h) (Or.inl ⟨by rfl, ?_⟩) ?_ ?_
                 rotate_left
                 ·intro w'
                  go_simp
                  with_reducible rfl
                 rotate_left
                 ·exact oT
                 refine pure_ (i := 17) (N := some 58) (v := ?_) (a' := ?_) #[true, true, true, true, true, true, true, false, true, true, true, true, false, true, false, false, true, true, false, false, false, false, false] rfl rfl (any_of HT_.out oK) (fun _ _ _ h => h) (Or.inl ⟨by rfl, ?_⟩) ?_ ?_
                 rotate_left
                 ·intro w'
                  go_simp
                  with_reducible rfl
                 rotate_left
                 ·exact oT
                 refine take_ (i := 7) (N := some 48) (v := ?_) (a' := ?_) #[true, true, true, true, true, true, true, true, true, true, true, true, false, true, false, false, true, true, false, false, false, false, false] rfl rfl (take_ofW HT_.out HW_.out oK) (fun _ _ _ h => h) (Or.inl ⟨by rfl, ?_⟩) hHeld ?_ ?_
                 rotate_left
                 ·rintro w' ⟨s0, s1, s2⟩
                  go_simp
                  with_reducible rfl
                 rotate_left
                 ·exact oT
                 refine take_ (i := 12) (N := some 53) (v := ?_) (a' := ?_) #[true, true, true, true, true, true, true, true, true, true, true, true, true, true, false, false, true, true, false, false, false, false, false] rfl rfl (take_ofW HT_.out HW_.out oK) (fun _ _ _ h => h) (Or.inl ⟨by rfl, ?_⟩) hHeld ?_ ?_
                 rotate_left
                 ·rintro w' ⟨s0, s1, s2⟩
                  go_simp
                  with_reducible rfl
                 rotate_left
                 ·exact oT
                 refine pure_ (i := 14) (N := some 55) (v := ?_) (a' := ?_) #[true, true, true, true, true, true, true, true, true, true, true, true, true, true, true, false, true, true, false, false, false, false, false] rfl rfl (any_of HT_.out oK) (fun _ _ _ h => h) (Or.inl ⟨by rfl, ?_⟩) ?_ ?_
                 rotate_left
                 ·intro w'
                  go_simp
                  with_reducible rfl
                 rotate_left
                 ·exact oT
                 refine pure_ (i := 15) (N := some 56) (v := ?_) (a' := ?_) #[true, true, true, true, true, true, true, true, true, true, true, true, true, true, true, true, true, true, false, false, false, false, false] rfl rfl (any_of HT_.out oK) (fun _ _ _ h => h) (Or.inl ⟨by rfl, ?_⟩) ?_ ?_
                 rotate_left
                 ·intro w'
                  go_simp
                  with_reducible rfl
                 rotate_left
                 ·exact oT
                 refine pure_ (i := 18) (N := some 59) (v := ?_) (a' := ?_) #[true, true, true, true, true, true, true, true, true, true, true, true, true, true, true, true, true, true, true, false, false, false, false] rfl rfl (any_of HT_.out oK) (fun _ _ _ h => h) (Or.inl ⟨by rfl, ?_⟩) ?_ ?_
                 rotate_left
                 ·intro w'
                  go_simp
                  with_reducible rfl
                 rotate_left
                 ·exact oT
                 refine pure_ (i := 19) (N := some 60) (v := ?_) (a' := ?_) #[true, true, true, true, true, true, true, true, true, true, true, true, true, true, true, true, true, true, true, true, false, false, false] rfl rfl (any_of HT_.out oK) (fun _ _ _ h => h) (Or.inl ⟨by rfl, ?_⟩) ?_ ?_
                 rotate_left
                 ·intro w'
                  go_simp
                  with_reducible rfl
                 rotate_left
                 ·exact oT
                 refine pure_ (i := 20) (N := some 61) (v := ?_) (a' := ?_) #[true, true, true, true, true, true, true, true, true, true, true, true, true, true, true, true, true, true, true, true, true, false, false] rfl rfl (any_of HT_.out oK) (fun _ _ _ h => h) (Or.inl ⟨by rfl, ?_⟩) ?_ ?_
                 rotate_left
                 ·intro w'
                  go_simp
                  with_reducible rfl
                 rotate_left
                 ·exact oT
                 refine pure_ (i := 21) (N := some 62) (v := ?_) (a' := ?_) #[true, true, true, true, true, true, true, true, true, true, true, true, true, true, true, true, true, true, true, true, true, true, false] rfl rfl (any_of HT_.out oK) (fun _ _ _ h => h) (Or.inl ⟨by rfl, ?_⟩) ?_ ?_
                 rotate_left
                 ·intro w'
                  go_simp
                  with_reducible rfl
                 rotate_left
                 ·exact oT
                 refine last_ (i := 22) (N := none) #[true, true, true, true, true, true, true, true, true, true, true, true, true, true, true, true, true, true, true, true, true, true, true] rfl rfl (one_of HT_.out oK) oD (fun K hK => ?_)
                 refine skip_ (w1 := ?_) (by rfl) rfl ?_ ?_
                 rotate_left
                 ·go_simp
                  rfl
                 refine hK.out _ _ ?_
                 clear hK K
                 refine done_ (done_of HT_.out oK) ?_
                 try go_wp2
                 go_roundg k3
                 case measure => have := HK1.out; have := cH.out; have := HK3.out; omega
                 case rel => exact ⟨(y124), (wrap64 (aC + 1)), (wrap64 (aD + 1)), oU, oU, H', ⟨(by have := HK1.out; have := cH.out; have := HK3.out; omega)⟩, ⟨(by (with_reducible repeat (first | apply Kd.R_alloc | apply Kd.R_drewN | apply Kd.R_drew)); (first | exact HQ44.out | (rw [bI (by have := Int.tmod_lt_of_pos aC (show (0 : Int) < 8 by decide); omega)]; exact HQ44.out) | (rw [bI (by have := Int.tmod_lt_of_pos aC (show (0 : Int) < 8 by decide); omega)]; have hz_ := HQ44.out; rw [Int.add_emod_emod] at hz_; exact hz_) | (have hz_ := HQ44.out; rw [Int.add_emod_emod] at hz_; exact hz_)))⟩, ⟨(oB HB)⟩⟩
                ·rw [if_neg cY] at H
                 exact absurd H (by simp)
               ·rw [if_neg cX] at H
                exact absurd H (by simp)
              ·rw [if_neg dN] at H
               exact absurd H (by simp)
             ·rw [if_neg dM] at H
              exact absurd H (by simp)
           ·rw [if_neg cI] at H
            have cU : decide (aD < ((rd_T36 l0 aA).f1)) = false := decide_eq_false cI
            clear cI
            have H' := Aside0.mk H
            clear H
            have aX : 0 ≤ (aA : Int) := of_decide_eq_true oM
            have aY : aA < (l0.length : Int) := of_decide_eq_true oM
            obtain ⟨aN, bG, aG, aH⟩ := at_T36 bO.out aA aX aY
            cases bG
            replace aG := (HB.out.cell (World.block_lt_of_cell? w _ aG)).trans aG
            replace aH := (HB.out.cell (World.block_lt_of_cell? w _ aH)).trans aH
            replace aX := eq_true aX
            replace aY := eq_true aY
            go_wp2
            go_roundg k3
            case measure => have := HK1.out; have := cH.out; have := HK3.out; omega
            case rel => exact ⟨(aK), (aC), (wrap64 (aA + 1)), oU, oU, H', ⟨(by have := HK1.out; have := cH.out; have := HK3.out; omega)⟩, ⟨(oR aE)⟩, ⟨(oB HB)⟩⟩
          ·rw [if_neg dI] at H
           exact absurd H (by simp)
         ·rw [if_neg dH] at H
          exact absurd H (by simp)
   ·rw [if_neg c4] at H
    have bQ : decide (aA < (l0.length : Int)) = false := decide_eq_false c4
    clear c4
    by_cases cJ : (aW.length : Int) > 400
    ·rw [if_pos cJ] at H
     have cZ : decide (400 < (aW.length : Int)) = true := decide_eq_true cJ
     have dA : decide (400 < aW.length) = true := decide_eq_true (by omega)
     clear cJ
     obtain ⟨y107, hy107⟩ : ∃ y_ : List Int, y_ = (([] : List Int)) := ⟨_, rfl⟩
     replace H : (some y107) = some r := by first | (rw [hy107]; with_reducible exact H) | (have H2_ := (Option.bind_some _ _).symm.trans H; rw [hy107]; with_reducible exact H2_) | (have H2_ := (Option.bind_some _ _).symm.trans H; with_reducible exact H2_) | with_reducible exact H | (rw [hy107]; exact H) | exact H
     have bM := Aside0.mk hy107
     clear hy107
     obtain rfl := Option.some.inj H
     obtain ⟨fG, fN, dU⟩ := Kd.R_slice aE.out
     subst dU
     go_wp2_with (first | ((with_reducible refine gate_dst (N := 68) rfl ?_); (try (refine gate_guard (by rfl) ?_; dsimp only)); refine Kd.R_lit (Kd.int .u8) _ 5 ?hg (N := 68) ?hd (xs := ([] : List Int)) (inner := []) (ok := fun _ => True) (okp := fun _ => True) ?hr ?hp (fun _ hk => hk) trivial (Below.refl _ _) (Nat.le_refl _) (by simp) ?_; (case hd => rfl); (case hg => rfl); (case hr => first | (go_simp; done) | (go_simp; rfl)); (case hp => exact (Reps.none _ _)); intro fQ gA ho48 hb hg_ hnew_; clear hg_ hnew_; (first | rw [← bM.out] at ho48 | (simp only [Int.reduceToNat] at ho48; rw [← bM.out] at ho48)); have n_ := o2_ (Kd.R_elder' (oR aE) (Kd.R_base ho48) hb) (o2_ (Kd.R_lower (Kd.R_new' ho48 (Kd.R_lt (oR aE))) (below_size (oB HB))) (o1_ (below_step (oB HB) hb))); clear aE HB; obtain ⟨aE, cL, HB⟩ := n_; clear hb ho48))
     go_ret
     exact ⟨_, by first | rfl | (simp [errW_none, errW_some] <;> rfl) | (simp [*, errW_none, errW_some] <;> rfl), by (with_reducible repeat (first | apply Kd.R_alloc | apply Kd.R_drewN | apply Kd.R_drew)); exact Kd.R_mono cL.out (fun _ hk => trivial), oB HB⟩
    ·rw [if_neg cJ] at H
     have cZ : decide (400 < (aW.length : Int)) = false := decide_eq_false cJ
     have dA : decide (400 < aW.length) = false := decide_eq_false (by omega)
     clear cJ
     obtain rfl := Option.some.inj H
     obtain ⟨fH, fO, dV⟩ := Kd.R_slice aE.out
     subst dV
     go_wp2
     go_ret
     exact ⟨_, by first | rfl | (simp [errW_none, errW_some] <;> rfl) | (simp [*, errW_none, errW_some] <;> rfl), by (with_reducible repeat (first | apply Kd.R_alloc | apply Kd.R_drewN | apply Kd.R_drew)); exact aE.out, oB HB⟩

end Go.Proofs.Ytfnkaccncmjnaaa.X
