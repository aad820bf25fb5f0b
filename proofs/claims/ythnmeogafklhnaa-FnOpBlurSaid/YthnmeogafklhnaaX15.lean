/- What functions of the program come to, each with its proof. No condition but what each theorem states. -/
import Derived.Test.YthnmeogafklhnaaX0
import Derived.Test.YthnmeogafklhnaaX11
import Derived.Test.YthnmeogafklhnaaX14
namespace Go.Proofs.Ythnmeogafklhnaa.X
open Go.RowKit Go.Proofs.YthnmeogafklhnaaW.PrintWords Go.Proofs.YthnmeogafklhnaaW.PrintLast Go.Proofs.YthnmeogafklhnaaW.PrintMore Go.Proofs.Ythnmeogafklhnaa.Hyb
attribute [local go_sem] max2_int min2_int max_two min_two max_three min_three max_four min_four
set_option linter.unusedVariables false
set_option linter.unusedSimpArgs false

/-! ### impl_RasOk: function 26 -/
mutual
def impl_RasOk.j0 : Nat → Bool → Int → Int → List (S38) → Option (Bool)
 | 0, _, _, _, _ => none
 | k + 1, x25, x278000, x278001, x278002 => if x25 = true then (some false) else (impl_RasOk.l0 k x278002 (x278002.length : Int) 0)
def impl_RasOk.l0 : Nat → List (S38) → Int → Int → Option (Bool)
 | 0, _, _, _ => none
 | k + 1, x27, x28, x29 => if x29 < x28 then (if 0 ≤ x29 then (if x29 < (x27.length : Int) then ((impl_PixOk.f ((rd_T38 x27 x29).f0) ((rd_T38 x27 x29).f1) ((rd_T38 x27 x29).f2) ((rd_T38 x27 x29).f3)).bind fun bT => (if bT = true then (impl_RasOk.l0 k x27 x28 (wrap64 (x29 + 1))) else (some false))) else (none)) else (none)) else (some true)
end
def impl_RasOk.f (k : Nat) (a0_0 : Int) (a0_1 : Int) (l0_2 : List (S38)) : Option (Bool) := (impl_sizeOk.f a0_0).bind fun bI => (if bI = true then ((impl_sizeOk.f a0_1).bind fun bJ => (if bJ = true then (impl_RasOk.j0 k ((l0_2.length : Int) != (wrap64 (a0_0 * a0_1))) a0_0 a0_1 l0_2) else (impl_RasOk.j0 k true a0_0 a0_1 l0_2))) else (impl_RasOk.j0 k true a0_0 a0_1 l0_2))
theorem impl_RasOk.mono_l : ∀ k, (∀ y0 y1 y2 y3, LeO (impl_RasOk.j0 k y0 y1 y2 y3) (impl_RasOk.j0 (k + 1) y0 y1 y2 y3)) ∧ (∀ y0 y1 y2, LeO (impl_RasOk.l0 k y0 y1 y2) (impl_RasOk.l0 (k + 1) y0 y1 y2))
 | 0 => ⟨(fun _ _ _ _ r h => nomatch (show none = some r from h)), (fun _ _ _ r h => nomatch (show none = some r from h))⟩
 | k + 1 => by
  obtain ⟨ih0, ih1⟩ := impl_RasOk.mono_l k
  refine ⟨?_, ?_⟩
  ·intro y0 y1 y2 y3
   unfold impl_RasOk.j0
   repeat' first
   | (with_reducible exact ih0 _ _ _ _)
   | (with_reducible exact ih1 _ _ _)
   | (with_reducible exact LeO.refl _)
   | (with_reducible exact LeO.none _)
   | (with_reducible refine LeO.ite ?_ ?_)
   | (with_reducible refine LeO.bind ?_ (fun _ => ?_))
   | exact ih0 _ _ _ _
   | exact ih1 _ _ _
   | exact LeO.none _
   | refine LeO.ite ?_ ?_
   | refine LeO.bind ?_ (fun _ => ?_)
  ·intro y0 y1 y2
   unfold impl_RasOk.l0
   repeat' first
   | (with_reducible exact ih0 _ _ _ _)
   | (with_reducible exact ih1 _ _ _)
   | (with_reducible exact LeO.refl _)
   | (with_reducible exact LeO.none _)
   | (with_reducible refine LeO.ite ?_ ?_)
   | (with_reducible refine LeO.bind ?_ (fun _ => ?_))
   | exact ih0 _ _ _ _
   | exact ih1 _ _ _
   | exact LeO.none _
   | refine LeO.ite ?_ ?_
   | refine LeO.bind ?_ (fun _ => ?_)
theorem impl_RasOk.mono : ∀ a0 a1 a2 k, LeO (impl_RasOk.f k a0 a1 a2) (impl_RasOk.f (k + 1) a0 a1 a2) := by
 intro a0 a1 a2 k
 obtain ⟨ih0, ih1⟩ := impl_RasOk.mono_l k
 unfold impl_RasOk.f
 repeat' first
   | (with_reducible exact ih0 _ _ _ _)
   | (with_reducible exact ih1 _ _ _)
   | (with_reducible exact LeO.refl _)
   | (with_reducible exact LeO.none _)
   | (with_reducible refine LeO.ite ?_ ?_)
   | (with_reducible refine LeO.bind ?_ (fun _ => ?_))
   | exact ih0 _ _ _ _
   | exact ih1 _ _ _
   | exact LeO.none _
   | refine LeO.ite ?_ ?_
   | refine LeO.bind ?_ (fun _ => ?_)
set_option maxHeartbeats 8000000 in
set_option maxRecDepth 100000 in
theorem impl_RasOk.calls (k : Nat) (a0_0 : Int) (a0_1 : Int) (aL : Option Addr) (aM : Nat) (l0_2 : List (S38)) (r : Bool) (w : World) (hr0_2 : Kd.C k38 w aL l0_2.length l0_2) (bR : l0_2.length ≤ aM) (h : impl_RasOk.f k a0_0 a0_1 l0_2 = some r) :
  Calls Try.prog 26 #[.agg #[.int .i64 a0_0, .int .i64 a0_1, .slice aL l0_2.length aM]] w fun e w' => e = .returned (.bool r) ∧ Below w.heap.size w w' := by
 have hu25 := Try.underlying25
 have hu38 := Try.underlying38
 have bQ := Aside0.mk hr0_2
 have dC := Aside0.mk bR
 clear hr0_2 bR
 have HB := Aside0.mk (Below.refl w.heap.size w)
 have H : ((impl_sizeOk.f a0_0).bind fun bI => (if bI = true then ((impl_sizeOk.f a0_1).bind fun bJ => (if bJ = true then (impl_RasOk.j0 k ((l0_2.length : Int) != (wrap64 (a0_0 * a0_1))) a0_0 a0_1 l0_2) else (impl_RasOk.j0 k true a0_0 a0_1 l0_2))) else (impl_RasOk.j0 k true a0_0 a0_1 l0_2))) = some r := h
 clear h
 have cW := Aside0.mk H
 clear H
 go_enter Try.func26, Try.ntmps26
 go_upto_region 1 with (first | ((with_reducible refine gate_dst (N := 1) rfl ?_); (try (refine gate_guard (by rfl) ?_; dsimp only)); refine box_event rfl (N := 1) rfl (cs := #[.int .i64 a0_0, .int .i64 a0_1, .slice aL l0_2.length aM]) (t := 25) oS ?_; intro aD hg w3 hbox hb; have n_ := o2_ (below_step (oB HB) hb) (o2_ (hbox) (o2_ ((oG hg (below_size (oB HB)) : w.heap.size ≤ aD)) (o1_ ((oG hg (below_size (oB HB)) : w.heap.size ≤ aD))))); clear HB; obtain ⟨HB, aA, dB, dA⟩ := n_; clear hb hbox hg))
 (try simp only [Act.put, List.setIfInBounds_toArray, List.set_cons_zero, List.set_cons_succ])
 go_cut [25] (fun dK wc => ∃ (kq : Nat) (aV : Bool), dK = .bool aV ∧ Aside0 (impl_RasOk.j0 kq aV a0_0 a0_1 l0_2 = some r) ∧ Aside0 (kq ≤ k) ∧ Aside0 (wc.heap[aD]? = some (.cells #[.int .i64 a0_0, .int .i64 a0_1, (.slice aL l0_2.length aM)] 25 (0, 0))) ∧ Aside0 (Below w.heap.size w wc))
 case first =>
  have H := cW.out
  clear cW
  replace H := Option.bind_eq_some_iff.mp H
  obtain ⟨bI, cY, H⟩ := H
  (try dsimp only at H)
  have A4 := Aside0.mk cY
  clear cY
  by_cases c5 : bI = true
  ·subst c5
   rw [if_pos rfl] at H
   replace H := Option.bind_eq_some_iff.mp H
   obtain ⟨bJ, cZ, H⟩ := H
   (try dsimp only at H)
   have A6 := Aside0.mk cZ
   clear cZ
   by_cases c7 : bJ = true
   ·subst c7
    rw [if_pos rfl] at H
    have H' := Aside0.mk H
    clear H
    have aW : w3.cell? ⟨aD, 0, none⟩ = some (.int .i64 a0_0) := (blk_cell aA.out 0).trans rfl
    have aX : w3.cell? ⟨aD, 1, none⟩ = some (.int .i64 a0_1) := (blk_cell aA.out 1).trans rfl
    have aY : w3.cell? ⟨aD, 2, none⟩ = some (.slice aL l0_2.length aM) := (blk_cell aA.out 2).trans rfl
    have bC := blk_frozen aA.out 0
    have bD := blk_frozen aA.out 1
    have bE := blk_frozen aA.out 2
    go_wp2_with (first | ((with_reducible refine gate_callee (f := 50) rfl ?_); refine goesL_ (some 7) rfl rfl Try.func50 oK rfl #[.int .i64 a0_0] rfl oA ?_; (with_reducible refine (impl_sizeOk.calls a0_0 true _ A4.out).mono ?_); rintro e w' ⟨rfl, ⟨nd, rfl⟩⟩; refine ⟨_, rfl, ?_⟩) | (go_at_call 50; (with_reducible refine (impl_sizeOk.calls a0_1 true _ A6.out).mono ?_); rintro e w' ⟨rfl, ⟨nd, rfl⟩⟩))
    go_meet
    case rel => exact ⟨_, (((l0_2.length : Int) != (wrap64 (a0_0 * a0_1)))), oU, H', ⟨(by first | omega | exact Nat.le_refl _)⟩, ⟨(oP aA)⟩, ⟨(oB HB)⟩⟩
   ·replace c7 := Bool.eq_false_iff.mpr c7
    subst c7
    rw [if_neg (show ¬ (false = true) by decide)] at H
    have H' := Aside0.mk H
    clear H
    have aZ : w3.cell? ⟨aD, 0, none⟩ = some (.int .i64 a0_0) := (blk_cell aA.out 0).trans rfl
    have bA : w3.cell? ⟨aD, 1, none⟩ = some (.int .i64 a0_1) := (blk_cell aA.out 1).trans rfl
    have bB : w3.cell? ⟨aD, 2, none⟩ = some (.slice aL l0_2.length aM) := (blk_cell aA.out 2).trans rfl
    have bF := blk_frozen aA.out 0
    have bG := blk_frozen aA.out 1
    have bH := blk_frozen aA.out 2
    go_wp2_with (first | ((with_reducible refine gate_callee (f := 50) rfl ?_); refine goesL_ (some 7) rfl rfl Try.func50 oK rfl #[.int .i64 a0_0] rfl oA ?_; (with_reducible refine (impl_sizeOk.calls a0_0 true _ A4.out).mono ?_); rintro e w' ⟨rfl, ⟨nd, rfl⟩⟩; refine ⟨_, rfl, ?_⟩) | (go_at_call 50; (with_reducible refine (impl_sizeOk.calls a0_1 false _ A6.out).mono ?_); rintro e w' ⟨rfl, ⟨nd, rfl⟩⟩))
    go_meet
    case rel => exact ⟨_, (true), oU, H', ⟨(by first | omega | exact Nat.le_refl _)⟩, ⟨(oP aA)⟩, ⟨(oB HB)⟩⟩
  ·replace c5 := Bool.eq_false_iff.mpr c5
   subst c5
   rw [if_neg (show ¬ (false = true) by decide)] at H
   have H' := Aside0.mk H
   clear H
   have aP : w3.cell? ⟨aD, 0, none⟩ = some (.int .i64 a0_0) := (blk_cell aA.out 0).trans rfl
   have aQ : w3.cell? ⟨aD, 1, none⟩ = some (.int .i64 a0_1) := (blk_cell aA.out 1).trans rfl
   have aR : w3.cell? ⟨aD, 2, none⟩ = some (.slice aL l0_2.length aM) := (blk_cell aA.out 2).trans rfl
   have aS := blk_frozen aA.out 0
   have aT := blk_frozen aA.out 1
   have aU := blk_frozen aA.out 2
   go_wp2_with (first | ((with_reducible refine gate_callee (f := 50) rfl ?_); refine goesL_ (some 7) rfl rfl Try.func50 oK rfl #[.int .i64 a0_0] rfl oA ?_; (with_reducible refine (impl_sizeOk.calls a0_0 false _ A4.out).mono ?_); rintro e w' ⟨rfl, ⟨nd, rfl⟩⟩; refine ⟨_, rfl, ?_⟩))
   go_meet
   case rel => exact ⟨_, (true), oU, H', ⟨(by first | omega | exact Nat.le_refl _)⟩, ⟨(oP aA)⟩, ⟨(oB HB)⟩⟩
 case rest =>
  clear cW
  try clear c2
  try clear p2
  try clear c5
  try clear p6
  try clear c7
  try clear aP
  try clear aQ
  try clear aR
  try clear aW
  try clear aX
  try clear aY
  try clear aZ
  try clear bA
  try clear bB
  try clear aS
  try clear aT
  try clear aU
  try clear bC
  try clear bD
  try clear bE
  try clear bF
  try clear bG
  try clear bH
  obtain ⟨kq, aV, rfl, HA, dD, aA, HB⟩ := hcut
  cases kq with
  | zero => exact nomatch (show none = some _ from HA.out)
  | succ kj1 =>
   have H := HA.out
   clear HA
   simp only [impl_RasOk.j0] at H
   by_cases bZ : aV = true
   ·subst bZ
    rw [if_pos rfl] at H
    obtain rfl := Option.some.inj H
    go_wp2
    go_ret
    exact ⟨by first | rfl | (simp [errW_none, errW_some] <;> rfl) | (simp [*, errW_none, errW_some] <;> rfl), oB HB⟩
   ·replace bZ := Bool.eq_false_iff.mpr bZ
    subst bZ
    rw [if_neg (show ¬ (false = true) by decide)] at H
    have H' := Aside0.mk H
    clear H
    have bK : wc.cell? ⟨aD, 0, none⟩ = some (.int .i64 a0_0) := (blk_cell aA.out 0).trans rfl
    have bL : wc.cell? ⟨aD, 1, none⟩ = some (.int .i64 a0_1) := (blk_cell aA.out 1).trans rfl
    have bM : wc.cell? ⟨aD, 2, none⟩ = some (.slice aL l0_2.length aM) := (blk_cell aA.out 2).trans rfl
    have bN := blk_frozen aA.out 0
    have bO := blk_frozen aA.out 1
    have bP := blk_frozen aA.out 2
    go_wp2
    go_loopg [29] kj1 (fun kq dL w' => ∃ (aB : Int), dL = .int .i64 aB ∧ Aside0 (impl_RasOk.l0 kq l0_2 (l0_2.length : Int) aB = some r) ∧ Aside0 (kq ≤ kj1) ∧ Aside0 (w'.heap[aD]? = some (.cells #[.int .i64 a0_0, .int .i64 a0_1, (.slice aL l0_2.length aM)] 25 (0, 0))) ∧ Aside0 (Below w.heap.size w w'))
    case atStart => exact ⟨(0), oU, H', ⟨Nat.le_refl _⟩, ⟨(oP aA)⟩, ⟨(oB HB)⟩⟩
    case round =>
     clear H'
     try clear c1
     try clear c2
     try clear p2
     try clear c5
     try clear p6
     try clear c7
     try clear bZ
     try clear aP
     try clear aQ
     try clear aR
     try clear bK
     try clear bL
     try clear bM
     try clear aW
     try clear aX
     try clear aY
     try clear aZ
     try clear bA
     try clear bB
     try clear aS
     try clear aT
     try clear aU
     try clear bN
     try clear bO
     try clear bP
     try clear bC
     try clear bD
     try clear bE
     try clear bF
     try clear bG
     try clear bH
     try clear p2
     try clear p6
     obtain ⟨aB, rfl, HA, HK2, aA, HB⟩ := hrel
     cases gk with
     | zero => exact nomatch (show none = some _ from HA.out)
     | succ k2 =>
      have H := HA.out
      clear HA
      simp only [impl_RasOk.l0] at H
      by_cases bU : aB < (l0_2.length : Int)
      ·rw [if_pos bU] at H
       have cA : decide (aB < (l0_2.length : Int)) = true := decide_eq_true bU
       clear bU
       by_cases cB : 0 ≤ aB
       ·rw [if_pos cB] at H
        have dE : decide (0 ≤ aB) = true := decide_eq_true cB
        clear cB
        by_cases cC : aB < (l0_2.length : Int)
        ·rw [if_pos cC] at H
         have dF : decide (aB < (l0_2.length : Int)) = true := decide_eq_true cC
         clear cC
         replace H := Option.bind_eq_some_iff.mp H
         obtain ⟨bT, bV, H⟩ := H
         (try dsimp only at H)
         have cX := Aside0.mk bV
         clear bV
         by_cases cD : bT = true
         ·subst cD
          rw [if_pos rfl] at H
          have H' := Aside0.mk H
          clear H
          have aN : 0 ≤ (aB : Int) := of_decide_eq_true oM
          have aO : aB < (l0_2.length : Int) := of_decide_eq_true oM
          obtain ⟨bY, bS, aF, aG, aH, aI⟩ := at_T38 bQ.out aB aN aO
          cases bS
          replace aF := (HB.out.cell (World.block_lt_of_cell? w _ aF)).trans aF
          replace aG := (HB.out.cell (World.block_lt_of_cell? w _ aG)).trans aG
          replace aH := (HB.out.cell (World.block_lt_of_cell? w _ aH)).trans aH
          replace aI := (HB.out.cell (World.block_lt_of_cell? w _ aI)).trans aI
          replace aN := eq_true aN
          replace aO := eq_true aO
          go_wp2_with (first | ((with_reducible refine gate_dst (N := 4) rfl ?_); (try (refine gate_guard (by rfl) ?_; dsimp only)); refine box_event rfl (N := 4) rfl (cs := #[.int .i64 0, .int .i64 0, .int .i64 0, .int .i64 0]) (t := 38) oS ?_; intro aE hg cU hbox hb; have n_ := o2_ (blk_below (oP aA) hb) (o2_ (below_step (oB HB) hb) (o2_ (hbox) (o2_ ((oG hg (below_size (oB HB)) : w.heap.size ≤ aE)) (o2_ ((oG hg (below_size (oB HB)) : w.heap.size ≤ aE)) (o2_ ((oL hg (blk_lt (oP aA)))) (o1_ ((oN hg (blk_lt (oP aA)))))))))); clear aA HB; obtain ⟨aA, HB, aC, bX, bW, aJ, aK⟩ := n_; clear hb hbox hg; have dG := aK.out; have dI := aJ.out; have cE : cU.cell? ⟨aE, 0, none⟩ = some (.int .i64 0) := (blk_cell aC.out 0).trans rfl; have cF : cU.cell? ⟨aE, 1, none⟩ = some (.int .i64 0) := (blk_cell aC.out 1).trans rfl; have cG : cU.cell? ⟨aE, 2, none⟩ = some (.int .i64 0) := (blk_cell aC.out 2).trans rfl; have cH : cU.cell? ⟨aE, 3, none⟩ = some (.int .i64 0) := (blk_cell aC.out 3).trans rfl; have cM := blk_frozen aC.out 0; have cN := blk_frozen aC.out 1; have cO := blk_frozen aC.out 2; have cP := blk_frozen aC.out 3) | ((with_reducible refine gate_callee (f := 53) rfl ?_); refine goesL_ (some 34) rfl rfl Try.func53 oK rfl #[.agg #[.int .i64 ((rd_T38 l0_2 aB).f0), .int .i64 ((rd_T38 l0_2 aB).f1), .int .i64 ((rd_T38 l0_2 aB).f2), .int .i64 ((rd_T38 l0_2 aB).f3)]] rfl oA ?_; (with_reducible refine (impl_PixOk.calls ((rd_T38 l0_2 aB).f0) ((rd_T38 l0_2 aB).f1) ((rd_T38 l0_2 aB).f2) ((rd_T38 l0_2 aB).f3) true _ cX.out).mono ?_); rintro e dM ⟨rfl, hb⟩; refine ⟨_, rfl, ?_⟩; have n_ := o2_ (blk_below (oP aA) hb) (o2_ (blk_below (g := aE) (o := .cells #[.int .i64 ((rd_T38 l0_2 aB).f0), .int .i64 ((rd_T38 l0_2 aB).f1), .int .i64 ((rd_T38 l0_2 aB).f2), .int .i64 ((rd_T38 l0_2 aB).f3)] 38 (0, 0)) (blk_put (blk_put (blk_put (blk_put aC.out 0 _ rfl) 1 _ rfl) 2 _ rfl) 3 _ rfl) hb) (o1_ (below_step (oB HB) hb))); clear aA aC HB; obtain ⟨aA, aC, HB⟩ := n_; (try clear hb); (try clear hb2); (try clear hk); (try clear hi)))
          go_roundg k2
          case measure => have := dD.out; have := HK2.out; omega
          case rel => exact ⟨(wrap64 (aB + 1)), oU, H', ⟨(by have := dD.out; have := HK2.out; omega)⟩, ⟨(oP aA)⟩, ⟨(oB HB)⟩⟩
         ·replace cD := Bool.eq_false_iff.mpr cD
          subst cD
          rw [if_neg (show ¬ (false = true) by decide)] at H
          obtain rfl := Option.some.inj H
          have aN : 0 ≤ (aB : Int) := of_decide_eq_true oM
          have aO : aB < (l0_2.length : Int) := of_decide_eq_true oM
          obtain ⟨bY, bS, aF, aG, aH, aI⟩ := at_T38 bQ.out aB aN aO
          cases bS
          replace aF := (HB.out.cell (World.block_lt_of_cell? w _ aF)).trans aF
          replace aG := (HB.out.cell (World.block_lt_of_cell? w _ aG)).trans aG
          replace aH := (HB.out.cell (World.block_lt_of_cell? w _ aH)).trans aH
          replace aI := (HB.out.cell (World.block_lt_of_cell? w _ aI)).trans aI
          replace aN := eq_true aN
          replace aO := eq_true aO
          go_wp2_with (first | ((with_reducible refine gate_dst (N := 4) rfl ?_); (try (refine gate_guard (by rfl) ?_; dsimp only)); refine box_event rfl (N := 4) rfl (cs := #[.int .i64 0, .int .i64 0, .int .i64 0, .int .i64 0]) (t := 38) oS ?_; intro aE hg cV hbox hb; have n_ := o2_ (below_step (oB HB) hb) (o2_ (hbox) (o2_ ((oG hg (below_size (oB HB)) : w.heap.size ≤ aE)) (o2_ ((oG hg (below_size (oB HB)) : w.heap.size ≤ aE)) (o2_ ((oL hg (blk_lt (oP aA)))) (o1_ ((oN hg (blk_lt (oP aA))))))))); clear HB; obtain ⟨HB, aC, bX, bW, aJ, aK⟩ := n_; clear hb hbox hg; have dH := aK.out; have dJ := aJ.out; have cI : cV.cell? ⟨aE, 0, none⟩ = some (.int .i64 0) := (blk_cell aC.out 0).trans rfl; have cJ : cV.cell? ⟨aE, 1, none⟩ = some (.int .i64 0) := (blk_cell aC.out 1).trans rfl; have cK : cV.cell? ⟨aE, 2, none⟩ = some (.int .i64 0) := (blk_cell aC.out 2).trans rfl; have cL : cV.cell? ⟨aE, 3, none⟩ = some (.int .i64 0) := (blk_cell aC.out 3).trans rfl; have cQ := blk_frozen aC.out 0; have cR := blk_frozen aC.out 1; have cS := blk_frozen aC.out 2; have cT := blk_frozen aC.out 3) | ((with_reducible refine gate_callee (f := 53) rfl ?_); refine goesL_ (some 34) rfl rfl Try.func53 oK rfl #[.agg #[.int .i64 ((rd_T38 l0_2 aB).f0), .int .i64 ((rd_T38 l0_2 aB).f1), .int .i64 ((rd_T38 l0_2 aB).f2), .int .i64 ((rd_T38 l0_2 aB).f3)]] rfl oA ?_; (with_reducible refine (impl_PixOk.calls ((rd_T38 l0_2 aB).f0) ((rd_T38 l0_2 aB).f1) ((rd_T38 l0_2 aB).f2) ((rd_T38 l0_2 aB).f3) false _ cX.out).mono ?_); rintro e dN ⟨rfl, hb⟩; refine ⟨_, rfl, ?_⟩; replace HB := o1_ (below_step (oB HB) hb); (try clear hb); (try clear hb2); (try clear hk); (try clear hi)))
          go_ret
          exact ⟨by first | rfl | (simp [errW_none, errW_some] <;> rfl) | (simp [*, errW_none, errW_some] <;> rfl), oB HB⟩
        ·rw [if_neg cC] at H
         exact absurd H (by simp)
       ·rw [if_neg cB] at H
        exact absurd H (by simp)
      ·rw [if_neg bU] at H
       have cA : decide (aB < (l0_2.length : Int)) = false := decide_eq_false bU
       clear bU
       obtain rfl := Option.some.inj H
       go_wp2
       go_ret
       exact ⟨by first | rfl | (simp [errW_none, errW_some] <;> rfl) | (simp [*, errW_none, errW_some] <;> rfl), oB HB⟩

end Go.Proofs.Ythnmeogafklhnaa.X
