/- What functions of the program come to, each with its proof. No condition but what each theorem states. -/
import Derived.Test.YthnmeogafklhnaaX0
import Derived.Test.YthnmeogafklhnaaX29
import Derived.Test.YthnmeogafklhnaaX31
namespace Go.Proofs.Ythnmeogafklhnaa.X
open Go.RowKit Go.Proofs.YthnmeogafklhnaaW.PrintWords Go.Proofs.YthnmeogafklhnaaW.PrintLast Go.Proofs.YthnmeogafklhnaaW.PrintMore Go.Proofs.Ythnmeogafklhnaa.Hyb
attribute [local go_sem] max2_int min2_int max_two min_two max_three min_three max_four min_four
set_option linter.unusedVariables false
set_option linter.unusedSimpArgs false

/-! ### spec_RasOk: function 24 -/
mutual
def spec_RasOk.j0 : Nat → Bool → Int → Int → List (S38) → Option (Bool)
 | 0, _, _, _, _ => none
 | k + 1, x24, x310000, x310001, x310002 => if x24 = true then (some false) else (spec_RasOk.l0 k 0 x310000 x310001 x310002)
def spec_RasOk.l0 : Nat → Int → Int → Int → List (S38) → Option (Bool)
 | 0, _, _, _, _ => none
 | k + 1, x3, x310000, x310001, x310002 => if x3 < (x310002.length : Int) then (if 0 ≤ x3 then ((spec_PixOk.f ((rd_T38 x310002 x3).f0) ((rd_T38 x310002 x3).f1) ((rd_T38 x310002 x3).f2) ((rd_T38 x310002 x3).f3)).bind fun bJ => (if bJ = true then (spec_RasOk.l0 k (wrap64 (x3 + 1)) x310000 x310001 x310002) else (some false))) else (none)) else (some true)
end
def spec_RasOk.f (k : Nat) (a0_0 : Int) (a0_1 : Int) (l0_2 : List (S38)) : Option (Bool) := (spec_l1In.f a0_0 1 6).bind fun bE => (if bE = true then ((spec_l1In.f a0_1 1 6).bind fun bF => (if bF = true then (spec_RasOk.j0 k ((l0_2.length : Int) != (wrap64 (a0_0 * a0_1))) a0_0 a0_1 l0_2) else (spec_RasOk.j0 k true a0_0 a0_1 l0_2))) else (spec_RasOk.j0 k true a0_0 a0_1 l0_2))
theorem spec_RasOk.mono_l : ∀ k, (∀ y0 y1 y2 y3, LeO (spec_RasOk.j0 k y0 y1 y2 y3) (spec_RasOk.j0 (k + 1) y0 y1 y2 y3)) ∧ (∀ y0 y1 y2 y3, LeO (spec_RasOk.l0 k y0 y1 y2 y3) (spec_RasOk.l0 (k + 1) y0 y1 y2 y3))
 | 0 => ⟨(fun _ _ _ _ r h => nomatch (show none = some r from h)), (fun _ _ _ _ r h => nomatch (show none = some r from h))⟩
 | k + 1 => by
  obtain ⟨ih0, ih1⟩ := spec_RasOk.mono_l k
  refine ⟨?_, ?_⟩
  ·intro y0 y1 y2 y3
   unfold spec_RasOk.j0
   repeat' first
   | (with_reducible exact ih0 _ _ _ _)
   | (with_reducible exact ih1 _ _ _ _)
   | (with_reducible exact LeO.refl _)
   | (with_reducible exact LeO.none _)
   | (with_reducible refine LeO.ite ?_ ?_)
   | (with_reducible refine LeO.bind ?_ (fun _ => ?_))
   | exact ih0 _ _ _ _
   | exact ih1 _ _ _ _
   | exact LeO.none _
   | refine LeO.ite ?_ ?_
   | refine LeO.bind ?_ (fun _ => ?_)
  ·intro y0 y1 y2 y3
   unfold spec_RasOk.l0
   repeat' first
   | (with_reducible exact ih0 _ _ _ _)
   | (with_reducible exact ih1 _ _ _ _)
   | (with_reducible exact LeO.refl _)
   | (with_reducible exact LeO.none _)
   | (with_reducible refine LeO.ite ?_ ?_)
   | (with_reducible refine LeO.bind ?_ (fun _ => ?_))
   | exact ih0 _ _ _ _
   | exact ih1 _ _ _ _
   | exact LeO.none _
   | refine LeO.ite ?_ ?_
   | refine LeO.bind ?_ (fun _ => ?_)
theorem spec_RasOk.mono : ∀ a0 a1 a2 k, LeO (spec_RasOk.f k a0 a1 a2) (spec_RasOk.f (k + 1) a0 a1 a2) := by
 intro a0 a1 a2 k
 obtain ⟨ih0, ih1⟩ := spec_RasOk.mono_l k
 unfold spec_RasOk.f
 repeat' first
   | (with_reducible exact ih0 _ _ _ _)
   | (with_reducible exact ih1 _ _ _ _)
   | (with_reducible exact LeO.refl _)
   | (with_reducible exact LeO.none _)
   | (with_reducible refine LeO.ite ?_ ?_)
   | (with_reducible refine LeO.bind ?_ (fun _ => ?_))
   | exact ih0 _ _ _ _
   | exact ih1 _ _ _ _
   | exact LeO.none _
   | refine LeO.ite ?_ ?_
   | refine LeO.bind ?_ (fun _ => ?_)
set_option maxHeartbeats 8000000 in
set_option maxRecDepth 100000 in
theorem spec_RasOk.calls (k : Nat) (a0_0 : Int) (a0_1 : Int) (aH : Option Addr) (aI : Nat) (l0_2 : List (S38)) (r : Bool) (w : World) (hr0_2 : Kd.C k38 w aH l0_2.length l0_2) (bH : l0_2.length ≤ aI) (h : spec_RasOk.f k a0_0 a0_1 l0_2 = some r) :
  Calls Try.prog 24 #[.agg #[.int .i64 a0_0, .int .i64 a0_1, .slice aH l0_2.length aI]] w fun e w' => e = .returned (.bool r) ∧ Below w.heap.size w w' := by
 have hu25 := Try.underlying25
 have hu38 := Try.underlying38
 have bG := Aside0.mk hr0_2
 have cP := Aside0.mk bH
 clear hr0_2 bH
 have HB := Aside0.mk (Below.refl w.heap.size w)
 have H : ((spec_l1In.f a0_0 1 6).bind fun bE => (if bE = true then ((spec_l1In.f a0_1 1 6).bind fun bF => (if bF = true then (spec_RasOk.j0 k ((l0_2.length : Int) != (wrap64 (a0_0 * a0_1))) a0_0 a0_1 l0_2) else (spec_RasOk.j0 k true a0_0 a0_1 l0_2))) else (spec_RasOk.j0 k true a0_0 a0_1 l0_2))) = some r := h
 clear h
 have cJ := Aside0.mk H
 clear H
 go_enter Try.func24, Try.ntmps24
 go_upto_region 1 with (first | ((with_reducible refine gate_dst (N := 1) rfl ?_); (try (refine gate_guard (by rfl) ?_; dsimp only)); refine box_event rfl (N := 1) rfl (cs := #[.int .i64 a0_0, .int .i64 a0_1, .slice aH l0_2.length aI]) (t := 25) oS ?_; intro aB hg w3 hbox hb; have n_ := o2_ (below_step (oB HB) hb) (o2_ (hbox) (o2_ ((oG hg (below_size (oB HB)) : w.heap.size ≤ aB)) (o1_ ((oG hg (below_size (oB HB)) : w.heap.size ≤ aB))))); clear HB; obtain ⟨HB, aA, cO, cN⟩ := n_; clear hb hbox hg))
 (try simp only [Act.put, List.setIfInBounds_toArray, List.set_cons_zero, List.set_cons_succ])
 go_cut [24] (fun cS wc => ∃ (kq : Nat) (aR : Bool), cS = .bool aR ∧ Aside0 (spec_RasOk.j0 kq aR a0_0 a0_1 l0_2 = some r) ∧ Aside0 (kq ≤ k) ∧ Aside0 (wc.heap[aB]? = some (.cells #[.int .i64 a0_0, .int .i64 a0_1, (.slice aH l0_2.length aI)] 25 (0, 0))) ∧ Aside0 (Below w.heap.size w wc))
 case first =>
  have H := cJ.out
  clear cJ
  replace H := Option.bind_eq_some_iff.mp H
  obtain ⟨bE, cL, H⟩ := H
  (try dsimp only at H)
  have A4 := Aside0.mk cL
  clear cL
  by_cases c5 : bE = true
  ·subst c5
   rw [if_pos rfl] at H
   replace H := Option.bind_eq_some_iff.mp H
   obtain ⟨bF, cM, H⟩ := H
   (try dsimp only at H)
   have A6 := Aside0.mk cM
   clear cM
   by_cases c7 : bF = true
   ·subst c7
    rw [if_pos rfl] at H
    have H' := Aside0.mk H
    clear H
    have aS : w3.cell? ⟨aB, 0, none⟩ = some (.int .i64 a0_0) := (blk_cell aA.out 0).trans rfl
    have aT : w3.cell? ⟨aB, 1, none⟩ = some (.int .i64 a0_1) := (blk_cell aA.out 1).trans rfl
    have aU : w3.cell? ⟨aB, 2, none⟩ = some (.slice aH l0_2.length aI) := (blk_cell aA.out 2).trans rfl
    have aY := blk_frozen aA.out 0
    have aZ := blk_frozen aA.out 1
    have bA := blk_frozen aA.out 2
    go_wp2_with (first | ((with_reducible refine gate_callee (f := 52) rfl ?_); refine goesL_ (some 6) rfl rfl Try.func52 oK rfl #[.int .i64 a0_0, .int .i64 1, .int .i64 6] rfl oA ?_; (with_reducible refine (spec_l1In.calls a0_0 1 6 true _ A4.out).mono ?_); rintro e w' ⟨rfl, ⟨nd, rfl⟩⟩; refine ⟨_, rfl, ?_⟩) | (go_at_call 52; (with_reducible refine (spec_l1In.calls a0_1 1 6 true _ A6.out).mono ?_); rintro e w' ⟨rfl, ⟨nd, rfl⟩⟩))
    go_meet
    case rel => exact ⟨_, (((l0_2.length : Int) != (wrap64 (a0_0 * a0_1)))), oU, H', ⟨(by first | omega | exact Nat.le_refl _)⟩, ⟨(oP aA)⟩, ⟨(oB HB)⟩⟩
   ·replace c7 := Bool.eq_false_iff.mpr c7
    subst c7
    rw [if_neg (show ¬ (false = true) by decide)] at H
    have H' := Aside0.mk H
    clear H
    have aV : w3.cell? ⟨aB, 0, none⟩ = some (.int .i64 a0_0) := (blk_cell aA.out 0).trans rfl
    have aW : w3.cell? ⟨aB, 1, none⟩ = some (.int .i64 a0_1) := (blk_cell aA.out 1).trans rfl
    have aX : w3.cell? ⟨aB, 2, none⟩ = some (.slice aH l0_2.length aI) := (blk_cell aA.out 2).trans rfl
    have bB := blk_frozen aA.out 0
    have bC := blk_frozen aA.out 1
    have bD := blk_frozen aA.out 2
    go_wp2_with (first | ((with_reducible refine gate_callee (f := 52) rfl ?_); refine goesL_ (some 6) rfl rfl Try.func52 oK rfl #[.int .i64 a0_0, .int .i64 1, .int .i64 6] rfl oA ?_; (with_reducible refine (spec_l1In.calls a0_0 1 6 true _ A4.out).mono ?_); rintro e w' ⟨rfl, ⟨nd, rfl⟩⟩; refine ⟨_, rfl, ?_⟩) | (go_at_call 52; (with_reducible refine (spec_l1In.calls a0_1 1 6 false _ A6.out).mono ?_); rintro e w' ⟨rfl, ⟨nd, rfl⟩⟩))
    go_meet
    case rel => exact ⟨_, (true), oU, H', ⟨(by first | omega | exact Nat.le_refl _)⟩, ⟨(oP aA)⟩, ⟨(oB HB)⟩⟩
  ·replace c5 := Bool.eq_false_iff.mpr c5
   subst c5
   rw [if_neg (show ¬ (false = true) by decide)] at H
   have H' := Aside0.mk H
   clear H
   have aL : w3.cell? ⟨aB, 0, none⟩ = some (.int .i64 a0_0) := (blk_cell aA.out 0).trans rfl
   have aM : w3.cell? ⟨aB, 1, none⟩ = some (.int .i64 a0_1) := (blk_cell aA.out 1).trans rfl
   have aN : w3.cell? ⟨aB, 2, none⟩ = some (.slice aH l0_2.length aI) := (blk_cell aA.out 2).trans rfl
   have aO := blk_frozen aA.out 0
   have aP := blk_frozen aA.out 1
   have aQ := blk_frozen aA.out 2
   go_wp2_with (first | ((with_reducible refine gate_callee (f := 52) rfl ?_); refine goesL_ (some 6) rfl rfl Try.func52 oK rfl #[.int .i64 a0_0, .int .i64 1, .int .i64 6] rfl oA ?_; (with_reducible refine (spec_l1In.calls a0_0 1 6 false _ A4.out).mono ?_); rintro e w' ⟨rfl, ⟨nd, rfl⟩⟩; refine ⟨_, rfl, ?_⟩))
   go_meet
   case rel => exact ⟨_, (true), oU, H', ⟨(by first | omega | exact Nat.le_refl _)⟩, ⟨(oP aA)⟩, ⟨(oB HB)⟩⟩
 case rest =>
  clear cJ
  try clear c2
  try clear p2
  try clear c5
  try clear p6
  try clear c7
  try clear aL
  try clear aM
  try clear aN
  try clear aS
  try clear aT
  try clear aU
  try clear aV
  try clear aW
  try clear aX
  try clear aO
  try clear aP
  try clear aQ
  try clear aY
  try clear aZ
  try clear bA
  try clear bB
  try clear bC
  try clear bD
  obtain ⟨kq, aR, rfl, HA, cQ, aA, HB⟩ := hcut
  cases kq with
  | zero => exact nomatch (show none = some _ from HA.out)
  | succ kj1 =>
   have H := HA.out
   clear HA
   simp only [spec_RasOk.j0] at H
   by_cases bN : aR = true
   ·subst bN
    rw [if_pos rfl] at H
    obtain rfl := Option.some.inj H
    go_wp2
    go_ret
    exact ⟨by first | rfl | (simp [errW_none, errW_some] <;> rfl) | (simp [*, errW_none, errW_some] <;> rfl), oB HB⟩
   ·replace bN := Bool.eq_false_iff.mpr bN
    subst bN
    rw [if_neg (show ¬ (false = true) by decide)] at H
    have H' := Aside0.mk H
    clear H
    go_wp2
    go_loopg [3] kj1 (fun kq v3 w' => ∃ (aC : Int), v3 = .int .i64 aC ∧ Aside0 (spec_RasOk.l0 kq aC a0_0 a0_1 l0_2 = some r) ∧ Aside0 (kq ≤ kj1) ∧ Aside0 (w'.heap[aB]? = some (.cells #[.int .i64 a0_0, .int .i64 a0_1, (.slice aH l0_2.length aI)] 25 (0, 0))) ∧ Aside0 (Below w.heap.size w w'))
    case atStart => exact ⟨(0), oU, H', ⟨Nat.le_refl _⟩, ⟨(oP aA)⟩, ⟨(oB HB)⟩⟩
    case round =>
     clear H'
     try clear c1
     try clear c2
     try clear p2
     try clear c5
     try clear p6
     try clear c7
     try clear bN
     try clear aL
     try clear aM
     try clear aN
     try clear aS
     try clear aT
     try clear aU
     try clear aV
     try clear aW
     try clear aX
     try clear aO
     try clear aP
     try clear aQ
     try clear aY
     try clear aZ
     try clear bA
     try clear bB
     try clear bC
     try clear bD
     try clear p2
     try clear p6
     obtain ⟨aC, rfl, HA, HK2, aA, HB⟩ := hrel
     cases gk with
     | zero => exact nomatch (show none = some _ from HA.out)
     | succ k2 =>
      have H := HA.out
      clear HA
      simp only [spec_RasOk.l0] at H
      by_cases bK : aC < (l0_2.length : Int)
      ·rw [if_pos bK] at H
       have bO : decide (aC < (l0_2.length : Int)) = true := decide_eq_true bK
       clear bK
       by_cases bP : 0 ≤ aC
       ·rw [if_pos bP] at H
        have cR : decide (0 ≤ aC) = true := decide_eq_true bP
        clear bP
        replace H := Option.bind_eq_some_iff.mp H
        obtain ⟨bJ, bL, H⟩ := H
        (try dsimp only at H)
        have cK := Aside0.mk bL
        clear bL
        by_cases bQ : bJ = true
        ·subst bQ
         rw [if_pos rfl] at H
         have H' := Aside0.mk H
         clear H
         have bR : wr.cell? ⟨aB, 0, none⟩ = some (.int .i64 a0_0) := (blk_cell aA.out 0).trans rfl
         have bS : wr.cell? ⟨aB, 1, none⟩ = some (.int .i64 a0_1) := (blk_cell aA.out 1).trans rfl
         have bT : wr.cell? ⟨aB, 2, none⟩ = some (.slice aH l0_2.length aI) := (blk_cell aA.out 2).trans rfl
         have cA := blk_frozen aA.out 0
         have cB := blk_frozen aA.out 1
         have cC := blk_frozen aA.out 2
         have aJ : 0 ≤ (aC : Int) := of_decide_eq_true oM
         have aK : aC < (l0_2.length : Int) := of_decide_eq_true oM
         obtain ⟨bM, bI, aD, aE, aF, aG⟩ := at_T38 bG.out aC aJ aK
         cases bI
         replace aD := (HB.out.cell (World.block_lt_of_cell? w _ aD)).trans aD
         replace aE := (HB.out.cell (World.block_lt_of_cell? w _ aE)).trans aE
         replace aF := (HB.out.cell (World.block_lt_of_cell? w _ aF)).trans aF
         replace aG := (HB.out.cell (World.block_lt_of_cell? w _ aG)).trans aG
         replace aJ := eq_true aJ
         replace aK := eq_true aK
         go_wp2_with (first | ((with_reducible refine gate_callee (f := 30) rfl ?_); refine goesL_ (some 37) rfl rfl Try.func30 oK rfl #[.agg #[.int .i64 ((rd_T38 l0_2 aC).f0), .int .i64 ((rd_T38 l0_2 aC).f1), .int .i64 ((rd_T38 l0_2 aC).f2), .int .i64 ((rd_T38 l0_2 aC).f3)]] rfl oA ?_; (with_reducible refine (spec_PixOk.calls ((rd_T38 l0_2 aC).f0) ((rd_T38 l0_2 aC).f1) ((rd_T38 l0_2 aC).f2) ((rd_T38 l0_2 aC).f3) true _ cK.out).mono ?_); rintro e cT ⟨rfl, hb⟩; refine ⟨_, rfl, ?_⟩; have n_ := o2_ (blk_below (oP aA) hb) (o1_ (below_step (oB HB) hb)); clear aA HB; obtain ⟨aA, HB⟩ := n_; (try clear hb); (try clear hb2); (try clear hk); (try clear hi)))
         go_roundg k2
         case measure => have := cQ.out; have := HK2.out; omega
         case rel => exact ⟨(wrap64 (aC + 1)), oU, H', ⟨(by have := cQ.out; have := HK2.out; omega)⟩, ⟨(oP aA)⟩, ⟨(oB HB)⟩⟩
        ·replace bQ := Bool.eq_false_iff.mpr bQ
         subst bQ
         rw [if_neg (show ¬ (false = true) by decide)] at H
         obtain rfl := Option.some.inj H
         have bU : wr.cell? ⟨aB, 0, none⟩ = some (.int .i64 a0_0) := (blk_cell aA.out 0).trans rfl
         have bV : wr.cell? ⟨aB, 1, none⟩ = some (.int .i64 a0_1) := (blk_cell aA.out 1).trans rfl
         have bW : wr.cell? ⟨aB, 2, none⟩ = some (.slice aH l0_2.length aI) := (blk_cell aA.out 2).trans rfl
         have cD := blk_frozen aA.out 0
         have cE := blk_frozen aA.out 1
         have cF := blk_frozen aA.out 2
         have aJ : 0 ≤ (aC : Int) := of_decide_eq_true oM
         have aK : aC < (l0_2.length : Int) := of_decide_eq_true oM
         obtain ⟨bM, bI, aD, aE, aF, aG⟩ := at_T38 bG.out aC aJ aK
         cases bI
         replace aD := (HB.out.cell (World.block_lt_of_cell? w _ aD)).trans aD
         replace aE := (HB.out.cell (World.block_lt_of_cell? w _ aE)).trans aE
         replace aF := (HB.out.cell (World.block_lt_of_cell? w _ aF)).trans aF
         replace aG := (HB.out.cell (World.block_lt_of_cell? w _ aG)).trans aG
         replace aJ := eq_true aJ
         replace aK := eq_true aK
         go_wp2_with (first | ((with_reducible refine gate_callee (f := 30) rfl ?_); refine goesL_ (some 37) rfl rfl Try.func30 oK rfl #[.agg #[.int .i64 ((rd_T38 l0_2 aC).f0), .int .i64 ((rd_T38 l0_2 aC).f1), .int .i64 ((rd_T38 l0_2 aC).f2), .int .i64 ((rd_T38 l0_2 aC).f3)]] rfl oA ?_; (with_reducible refine (spec_PixOk.calls ((rd_T38 l0_2 aC).f0) ((rd_T38 l0_2 aC).f1) ((rd_T38 l0_2 aC).f2) ((rd_T38 l0_2 aC).f3) false _ cK.out).mono ?_); rintro e cU ⟨rfl, hb⟩; refine ⟨_, rfl, ?_⟩; have n_ := o2_ (blk_below (oP aA) hb) (o1_ (below_step (oB HB) hb)); clear aA HB; obtain ⟨aA, HB⟩ := n_; (try clear hb); (try clear hb2); (try clear hk); (try clear hi)))
         go_ret
         exact ⟨by first | rfl | (simp [errW_none, errW_some] <;> rfl) | (simp [*, errW_none, errW_some] <;> rfl), oB HB⟩
       ·rw [if_neg bP] at H
        exact absurd H (by simp)
      ·rw [if_neg bK] at H
       have bO : decide (aC < (l0_2.length : Int)) = false := decide_eq_false bK
       clear bK
       obtain rfl := Option.some.inj H
       have bX : wr.cell? ⟨aB, 0, none⟩ = some (.int .i64 a0_0) := (blk_cell aA.out 0).trans rfl
       have bY : wr.cell? ⟨aB, 1, none⟩ = some (.int .i64 a0_1) := (blk_cell aA.out 1).trans rfl
       have bZ : wr.cell? ⟨aB, 2, none⟩ = some (.slice aH l0_2.length aI) := (blk_cell aA.out 2).trans rfl
       have cG := blk_frozen aA.out 0
       have cH := blk_frozen aA.out 1
       have cI := blk_frozen aA.out 2
       go_wp2
       go_ret
       exact ⟨by first | rfl | (simp [errW_none, errW_some] <;> rfl) | (simp [*, errW_none, errW_some] <;> rfl), oB HB⟩

end Go.Proofs.Ythnmeogafklhnaa.X
