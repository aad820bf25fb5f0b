/- What functions of the program come to, each with its proof. No condition but what each theorem states. -/
import Derived.Test.YtmkiajoanblkbaaX0
import Derived.Test.YtmkiajoanblkbaaX35
namespace Go.Proofs.Ytmkiajoanblkbaa.X
open Go.RowKit Go.Proofs.YtmkiajoanblkbaaW.PrintWords Go.Proofs.YtmkiajoanblkbaaW.PrintLast Go.Proofs.YtmkiajoanblkbaaW.PrintMore Go.Proofs.Ytmkiajoanblkbaa.Hyb
attribute [local go_sem] max2_int min2_int max_two min_two max_three min_three max_four min_four
set_option linter.unusedVariables false
set_option linter.unusedSimpArgs false

/-! ### laws_toPixPixS: function 54 -/
def laws_toPixPixS.l0 : Nat → List (S84) → List (S39) → Int → Option ((List (S39)))
 | 0, _, _, _ => none
 | k + 1, x0, x3, x4 => if x4 < (x0.length : Int) then (if 0 ≤ x4 then ((laws_toPixPix.f ((rd_T84 x0 x4).f0) ((rd_T84 x0 x4).f1) ((rd_T84 x0 x4).f2) ((rd_T84 x0 x4).f3)).bind fun aI => (if x4 < (x3.length : Int) then (laws_toPixPixS.l0 k x0 (x3.set (x4 : Int).toNat (⟨aI.1, aI.2.1, aI.2.2.1, aI.2.2.2⟩ : S39)) (wrap64 (x4 + 1))) else (none))) else (none)) else (some x3)
def laws_toPixPixS.f (k : Nat) (l0 : List (S84)) : Option ((List (S39))) := if 0 ≤ (l0.length : Int) then (if ((l0.length : Int) : Int).toNat ≤ 8796093022208 then (laws_toPixPixS.l0 k l0 (List.replicate ((l0.length : Int) : Int).toNat z39) 0) else (none)) else (none)
theorem laws_toPixPixS.mono_l : ∀ k, (∀ y0 y1 y2, LeO (laws_toPixPixS.l0 k y0 y1 y2) (laws_toPixPixS.l0 (k + 1) y0 y1 y2))
 | 0 => (fun _ _ _ r h => nomatch (show none = some r from h))
 | k + 1 => by
  have ih0 := laws_toPixPixS.mono_l k
  ·intro y0 y1 y2
   unfold laws_toPixPixS.l0
   repeat' first
   | (with_reducible exact ih0 _ _ _)
   | (with_reducible exact LeO.refl _)
   | (with_reducible exact LeO.none _)
   | (with_reducible refine LeO.ite ?_ ?_)
   | (with_reducible refine LeO.bind ?_ (fun _ => ?_))
   | exact ih0 _ _ _
   | exact LeO.none _
   | refine LeO.ite ?_ ?_
   | refine LeO.bind ?_ (fun _ => ?_)
theorem laws_toPixPixS.mono : ∀ a0 k, LeO (laws_toPixPixS.f k a0) (laws_toPixPixS.f (k + 1) a0) := by
 intro a0 k
 have ih0 := laws_toPixPixS.mono_l k
 unfold laws_toPixPixS.f
 repeat' first
   | (with_reducible exact ih0 _ _ _)
   | (with_reducible exact LeO.refl _)
   | (with_reducible exact LeO.none _)
   | (with_reducible refine LeO.ite ?_ ?_)
   | (with_reducible refine LeO.bind ?_ (fun _ => ?_))
   | exact ih0 _ _ _
   | exact LeO.none _
   | refine LeO.ite ?_ ?_
   | refine LeO.bind ?_ (fun _ => ?_)
set_option maxHeartbeats 8000000 in
set_option maxRecDepth 100000 in
theorem laws_toPixPixS.calls (k : Nat) (A0 : Option Addr) (c0 : Nat) (l0 : List (S84)) (r : List (S39)) (w : World) (hr0 : Kd.C k84 w A0 l0.length l0) (bQ : l0.length ≤ c0) (h : laws_toPixPixS.f k l0 = some r) :
  Calls Try.prog 54 #[.slice A0 l0.length c0] w fun e w' => ∃ bR : Value, e = .returned (bR) ∧ Kd.R k39 39 w' w.heap.size (fun _ => True) bR r ∧ Below w.heap.size w w' := by
 have hu84 := Try.underlying84
 have hu39 := Try.underlying39
 have bS := Aside0.mk hr0
 have bV := Aside0.mk bQ
 clear hr0 bQ
 have HB := Aside0.mk (Below.refl w.heap.size w)
 have H : (if 0 ≤ (l0.length : Int) then (if ((l0.length : Int) : Int).toNat ≤ 8796093022208 then (laws_toPixPixS.l0 k l0 (List.replicate ((l0.length : Int) : Int).toNat z39) 0) else (none)) else (none)) = some r := h
 clear h
 by_cases c2 : 0 ≤ (l0.length : Int)
 ·rw [if_pos c2] at H
  have bA := eq_true c2
  have bB : decide (0 ≤ (l0.length : Int)) = true := decide_eq_true c2
  clear c2
  by_cases c3 : ((l0.length : Int) : Int).toNat ≤ 8796093022208
  ·rw [if_pos c3] at H
   have bC := eq_true c3
   have bD : decide (((l0.length : Int) : Int).toNat ≤ 8796093022208) = true := decide_eq_true c3
   clear c3
   obtain ⟨y431, hy431⟩ : ∃ y_ : List (S39), y_ = (List.replicate ((l0.length : Int) : Int).toNat z39) := ⟨_, rfl⟩
   replace H : (laws_toPixPixS.l0 k l0 y431 0) = some r := by first | (rw [hy431]; with_reducible exact H) | (have H2_ := (Option.bind_some _ _).symm.trans H; rw [hy431]; with_reducible exact H2_) | (have H2_ := (Option.bind_some _ _).symm.trans H; with_reducible exact H2_) | with_reducible exact H | (rw [hy431]; exact H) | exact H
   have aO := Aside0.mk hy431
   clear hy431
   have H' := Aside0.mk H
   clear H
   go_enter Try.func54, Try.ntmps54
   go_wp2_with (first | ((with_reducible refine gate_dst (N := 7) rfl ?_); refine Kd.R_make k39 _ 39 rfl (N := 7) rfl 34 _ _ rfl (l0.length : Int) rfl rfl Try.underlying34 (.agg #[(.int .i64 0), (.int .i64 0), (.int .i64 0), (.int .i64 0)]) 32 info39 rfl oD (by omega) z39 (ok := fun _ => True) (okp := fun _ => True) (k39_mkM _ _ _ z39 ) (fun _ hk => hk) trivial (of_decide_eq_true oM) (Nat.le_trans (Nat.mul_le_mul_right _ (of_decide_eq_true oM : (l0.length : Int).toNat ≤ 8796093022208)) (by omega)) (Below.refl _ _) (Nat.le_refl _) ?_; intro bM w4 ho5 hb hg_ hnew_; clear hg_ hnew_; (first | rw [← aO.out] at ho5 | (simp only [Int.reduceToNat] at ho5; rw [← aO.out] at ho5)); have n_ := o2_ (Kd.R_lower ho5 (below_size (oB HB))) (o1_ (below_step (oB HB) hb)); clear HB; obtain ⟨aV, HB⟩ := n_; clear hb ho5))
   go_loopg [4] k (fun kq v4 w' => ∃ (aB : List (S39)) (aA : Int), v4 = .int .i64 aA ∧ Aside0 (laws_toPixPixS.l0 kq l0 aB aA = some r) ∧ Aside0 (kq ≤ k) ∧ Aside0 (Kd.R k39 39 w' w.heap.size (fun _ => True) bM aB) ∧ Aside0 (Below w.heap.size w w'))
   case atStart => exact ⟨(y431), (0), oU, H', ⟨Nat.le_refl _⟩, ⟨(oR aV)⟩, ⟨(oB HB)⟩⟩
   case round =>
    clear H'
    try clear c2
    try clear bA
    try clear bB
    try clear p2
    try clear c3
    try clear bC
    try clear bD
    try clear c5
    obtain ⟨aB, aA, rfl, HA, HK1, aD, HB⟩ := hrel
    cases gk with
    | zero => exact nomatch (show none = some _ from HA.out)
    | succ k1 =>
     have H := HA.out
     clear HA
     simp only [laws_toPixPixS.l0] at H
     by_cases c6 : aA < (l0.length : Int)
     ·rw [if_pos c6] at H
      have bE : decide (aA < (l0.length : Int)) = true := decide_eq_true c6
      clear c6
      by_cases c7 : 0 ≤ aA
      ·rw [if_pos c7] at H
       have bT : decide (0 ≤ aA) = true := decide_eq_true c7
       clear c7
       replace H := Option.bind_eq_some_iff.mp H
       obtain ⟨⟨aJ, aK, aL, aM⟩, bO, H⟩ := H
       (try dsimp only at H)
       have A8 := Aside0.mk bO
       clear bO
       by_cases c9 : aA < (aB.length : Int)
       ·rw [if_pos c9] at H
        have bU : decide (aA < (aB.length : Int)) = true := decide_eq_true c9
        clear c9
        obtain ⟨y439, hy439⟩ : ∃ y_ : List (S39), y_ = (aB.set (aA : Int).toNat (⟨aJ, aK, aL, aM⟩ : S39)) := ⟨_, rfl⟩
        replace H : (laws_toPixPixS.l0 k1 l0 y439 (wrap64 (aA + 1))) = some r := by first | (rw [hy439]; with_reducible exact H) | (have H2_ := (Option.bind_some _ _).symm.trans H; rw [hy439]; with_reducible exact H2_) | (have H2_ := (Option.bind_some _ _).symm.trans H; with_reducible exact H2_) | with_reducible exact H | (rw [hy439]; exact H) | exact H
        have aW := Aside0.mk hy439
        clear hy439
        have H' := Aside0.mk H
        clear H
        have aT : 0 ≤ (aA : Int) := of_decide_eq_true oM
        have aU : aA < (l0.length : Int) := of_decide_eq_true oM
        obtain ⟨bP, bF, aE, aF, aG, aH⟩ := at_T84 bS.out aA aT aU
        cases bF
        replace aE := (HB.out.cell (World.block_lt_of_cell? w _ aE)).trans aE
        replace aF := (HB.out.cell (World.block_lt_of_cell? w _ aF)).trans aF
        replace aG := (HB.out.cell (World.block_lt_of_cell? w _ aG)).trans aG
        replace aH := (HB.out.cell (World.block_lt_of_cell? w _ aH)).trans aH
        replace aT := eq_true aT
        replace aU := eq_true aU
        go_wp2_with (first | ((with_reducible refine gate_callee (f := 64) rfl ?_); refine goesL_ (some 20) rfl rfl Try.func64 oK rfl #[.agg #[.int .i64 ((rd_T84 l0 aA).f0), .int .i64 ((rd_T84 l0 aA).f1), .int .i64 ((rd_T84 l0 aA).f2), .int .i64 ((rd_T84 l0 aA).f3)]] rfl oA ?_; (with_reducible refine (laws_toPixPix.calls ((rd_T84 l0 aA).f0) ((rd_T84 l0 aA).f1) ((rd_T84 l0 aA).f2) ((rd_T84 l0 aA).f3) aJ aK aL aM _ A8.out).mono ?_); rintro e aN ⟨rfl, hb⟩; refine ⟨_, rfl, ?_⟩; have n_ := o2_ (Kd.R_below (oR aD) hb) (o1_ (below_step (oB HB) hb)); clear aD HB; obtain ⟨aD, HB⟩ := n_; (try clear hb); (try clear hb2); (try clear hk); (try clear hi); have bK : 0 ≤ (aA : Int) := of_decide_eq_true oM; have bL : (aA : Int) < ((aB.length : Int) : Int) := of_decide_eq_true oM; obtain ⟨aC, aX, aY, aZ, gl10, cl10, HG10⟩ := Kd.R_form aD.out (by omega); (first | cases aY | (injection aY with ea_ en_ ec_; (first | subst ea_ | (injection ea_ with ea_; subst ea_)); subst ec_; clear en_)); have GB10 := Aside0.mk aZ; have GG10 := Aside0.mk HG10; clear aZ gl10 HG10; obtain ⟨ce10, hcl10, hM10, hcc10, hfr10⟩ := Kd.R_elem aD.out z39 (aA : Int) bK bL; obtain rfl := k39_openM hM10; have bG : aN.cell? ⟨aC, (aA : Int).toNat * 4, none⟩ = some (.int .i64 ((rd_T39 aB aA).f0)) := hcc10 0 _ rfl; have bH : aN.cell? ⟨aC, (aA : Int).toNat * 4 + 1, none⟩ = some (.int .i64 ((rd_T39 aB aA).f1)) := hcc10 1 _ rfl; have bI : aN.cell? ⟨aC, (aA : Int).toNat * 4 + 2, none⟩ = some (.int .i64 ((rd_T39 aB aA).f2)) := hcc10 2 _ rfl; have bJ : aN.cell? ⟨aC, (aA : Int).toNat * 4 + 3, none⟩ = some (.int .i64 ((rd_T39 aB aA).f3)) := hcc10 3 _ rfl; have hf10_0 : aN.frozen? ⟨aC, (aA : Int).toNat * 4, none⟩ = false := hfr10 0; have hf10_1 : aN.frozen? ⟨aC, (aA : Int).toNat * 4 + 1, none⟩ = false := hfr10 1; have hf10_2 : aN.frozen? ⟨aC, (aA : Int).toNat * 4 + 2, none⟩ = false := hfr10 2; have hf10_3 : aN.frozen? ⟨aC, (aA : Int).toNat * 4 + 3, none⟩ = false := hfr10 3; clear hcl10 hcc10 hfr10 hM10; replace bK := eq_true bK; replace bL := eq_true bL; have HX12 := Aside0.mk (show Kd.R k39 39 aN w.heap.size (fun _ => True) (.slice (some ⟨aC, 0, none⟩) aB.length aX) aB from (oR aD)); obtain ⟨ce12, hcl12, hM12, hcc12, hfr12⟩ := Kd.R_elem HX12.out z39 (aA : Int) (of_decide_eq_true oM) (by have h_ : (aA : Int) < ((aB.length : Int) : Int) := of_decide_eq_true oM; first | exact h_ | (have e_ := (Kd.R_reads' aD.out).1; omega) | simpa using h_); obtain rfl := k39_openM hM12; have HP12 := Kd.R_seg HX12.out (aA : Int) (of_decide_eq_true oM) (by have h_ : (aA : Int) < ((aB.length : Int) : Int) := of_decide_eq_true oM; first | exact h_ | (have e_ := (Kd.R_reads' aD.out).1; omega) | simpa using h_) (seg := [.int .i64 aJ, .int .i64 aK, .int .i64 aL, .int .i64 aM]) (j := 0) hcl12 hcc12 (show 4 ≤ 4 from by decide) (x' := (⟨aJ, aK, aL, aM⟩ : S39)) (k39_mkM _ _ _ (⟨aJ, aK, aL, aM⟩ : S39) ) (fun _ hk => hk); have aP := hcc12 0 _ rfl; (try simp only [show (k39).sz = 4 from rfl, Nat.mul_one, Nat.add_zero] at aP); have hf12_0 := hfr12 0; (try simp only [show (k39).sz = 4 from rfl, Nat.mul_one, Nat.add_zero] at hf12_0); have aQ := hcc12 1 _ rfl; (try simp only [show (k39).sz = 4 from rfl, Nat.mul_one, Nat.add_zero] at aQ); have hf12_1 := hfr12 1; (try simp only [show (k39).sz = 4 from rfl, Nat.mul_one, Nat.add_zero] at hf12_1); have aR := hcc12 2 _ rfl; (try simp only [show (k39).sz = 4 from rfl, Nat.mul_one, Nat.add_zero] at aR); have hf12_2 := hfr12 2; (try simp only [show (k39).sz = 4 from rfl, Nat.mul_one, Nat.add_zero] at hf12_2); have aS := hcc12 3 _ rfl; (try simp only [show (k39).sz = 4 from rfl, Nat.mul_one, Nat.add_zero] at aS); have hf12_3 := hfr12 3; (try simp only [show (k39).sz = 4 from rfl, Nat.mul_one, Nat.add_zero] at hf12_3); clear hcl12 hcc12 hfr12 hM12) | ((with_reducible refine gate_store (t := 39) (p := 21) rfl ?_); refine store_event (t := 39) (p := 21) (v := ?vo_w13) (w1 := ((((aN.setCell ⟨aC, (aA : Int).toNat * 4, none⟩ (.int .i64 aJ)).setCell ⟨aC, (aA : Int).toNat * 4 + 1, none⟩ (.int .i64 aK)).setCell ⟨aC, (aA : Int).toNat * 4 + 2, none⟩ (.int .i64 aL)).setCell ⟨aC, (aA : Int).toNat * 4 + 3, none⟩ (.int .i64 aM))) ?hg ?ho ?hn ?hr ?_; (case ho => rfl); (case hg => rfl); (case hn => rfl); (case hr => first | (go_simp; done) | (go_simp; rfl)); intro bN hw; have hg : aN.grownBy bN (some aC) := (by rw [hw]; exact HP12.2); have hp_ : Kd.R k39 39 bN w.heap.size (fun _ => True) (.slice (some ⟨aC, 0, none⟩) aB.length aX) y439 := (by rw [hw, aW.out]; exact HP12.1); clear HP12; have n_ := o2_ (hp_) (o1_ ((by rw [hw]; exact below_set (below_set (below_set (below_set (HB.out) GB10.out) GB10.out) GB10.out) GB10.out : Below w.heap.size w bN))); clear aD HB; obtain ⟨aD, HB⟩ := n_; clear hg hw hp_))
        go_roundg k1
        case measure => have := HK1.out; omega
        case rel => exact ⟨(y439), (wrap64 (aA + 1)), oU, H', ⟨(by have := HK1.out; omega)⟩, ⟨(oR aD)⟩, ⟨(oB HB)⟩⟩
       ·rw [if_neg c9] at H
        exact absurd H (by simp)
      ·rw [if_neg c7] at H
       exact absurd H (by simp)
     ·rw [if_neg c6] at H
      have bE : decide (aA < (l0.length : Int)) = false := decide_eq_false c6
      clear c6
      obtain rfl := Option.some.inj H
      go_wp2
      go_ret
      exact ⟨_, by first | rfl | (simp [errW_none, errW_some] <;> rfl) | (simp [*, errW_none, errW_some] <;> rfl), by (with_reducible repeat (first | apply Kd.R_alloc | apply Kd.R_drewN | apply Kd.R_drew)); exact aD.out, oB HB⟩
  ·rw [if_neg c3] at H
   exact absurd H (by simp)
 ·rw [if_neg c2] at H
  exact absurd H (by simp)

end Go.Proofs.Ytmkiajoanblkbaa.X
