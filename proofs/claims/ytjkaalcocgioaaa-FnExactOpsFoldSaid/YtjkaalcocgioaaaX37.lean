/- What functions of the program come to, each with its proof. No condition but what each theorem states. -/
import Derived.Test.YtjkaalcocgioaaaX0
import Derived.Test.YtjkaalcocgioaaaX36
namespace Go.Proofs.Ytjkaalcocgioaaa.X
open Go.RowKit Go.Proofs.YtjkaalcocgioaaaW.PrintWords Go.Proofs.YtjkaalcocgioaaaW.PrintLast Go.Proofs.YtjkaalcocgioaaaW.PrintMore Go.Proofs.Ytjkaalcocgioaaa.Hyb
attribute [local go_sem] max2_int min2_int max_two min_two max_three min_three max_four min_four
set_option linter.unusedVariables false
set_option linter.unusedSimpArgs false

/-! ### laws_toOpOpS: function 16 -/
def laws_toOpOpS.l0 : Nat → List (S53) → List (S25) → Int → Option ((List (S25)))
 | 0, _, _, _ => none
 | k + 1, x0, x3, x4 => if x4 < (x0.length : Int) then (if 0 ≤ x4 then ((laws_toOpOp.f ((rd_T53 x0 x4).f0) ((rd_T53 x0 x4).f1) ((rd_T53 x0 x4).f2) ((rd_T53 x0 x4).f3) ((rd_T53 x0 x4).f4)).bind fun aJ => (if x4 < (x3.length : Int) then (laws_toOpOpS.l0 k x0 (x3.set (x4 : Int).toNat (⟨aJ.1, aJ.2.1, aJ.2.2.1, aJ.2.2.2.1, aJ.2.2.2.2⟩ : S25)) (wrap64 (x4 + 1))) else (none))) else (none)) else (some x3)
def laws_toOpOpS.f (k : Nat) (l0 : List (S53)) : Option ((List (S25))) := if 0 ≤ (l0.length : Int) then (if ((l0.length : Int) : Int).toNat ≤ 7036874417766 then (laws_toOpOpS.l0 k l0 (List.replicate ((l0.length : Int) : Int).toNat z25) 0) else (none)) else (none)
theorem laws_toOpOpS.mono_l : ∀ k, (∀ y0 y1 y2, LeO (laws_toOpOpS.l0 k y0 y1 y2) (laws_toOpOpS.l0 (k + 1) y0 y1 y2))
 | 0 => (fun _ _ _ r h => nomatch (show none = some r from h))
 | k + 1 => by
  have ih0 := laws_toOpOpS.mono_l k
  ·intro y0 y1 y2
   unfold laws_toOpOpS.l0
   repeat' first
   | (with_reducible exact ih0 _ _ _)
   | (with_reducible exact LeO.refl _)
   | (with_reducible exact LeO.none _)
   | (with_reducible refine LeO.ite ?_ ?_)
   | (with_reducible refine LeO.bind ?_ (fun _ => ?_))
   | exact ih0 _ _ _
   | exact LeO.none _
   | refine LeO.ite ?_ ?_
   | refine LeO.bind ?_ (fun _ => ?_)
theorem laws_toOpOpS.mono : ∀ a0 k, LeO (laws_toOpOpS.f k a0) (laws_toOpOpS.f (k + 1) a0) := by
 intro a0 k
 have ih0 := laws_toOpOpS.mono_l k
 unfold laws_toOpOpS.f
 repeat' first
   | (with_reducible exact ih0 _ _ _)
   | (with_reducible exact LeO.refl _)
   | (with_reducible exact LeO.none _)
   | (with_reducible refine LeO.ite ?_ ?_)
   | (with_reducible refine LeO.bind ?_ (fun _ => ?_))
   | exact ih0 _ _ _
   | exact LeO.none _
   | refine LeO.ite ?_ ?_
   | refine LeO.bind ?_ (fun _ => ?_)
set_option maxHeartbeats 8000000 in
set_option maxRecDepth 100000 in
theorem laws_toOpOpS.calls (k : Nat) (A0 : Option Addr) (c0 : Nat) (l0 : List (S53)) (r : List (S25)) (w : World) (hr0 : Kd.C k53 w A0 l0.length l0) (bU : l0.length ≤ c0) (h : laws_toOpOpS.f k l0 = some r) :
  Calls Try.prog 16 #[.slice A0 l0.length c0] w fun e w' => ∃ bV : Value, e = .returned (bV) ∧ Kd.R k25 25 w' w.heap.size (fun _ => True) bV r ∧ Below w.heap.size w w' := by
 have hu53 := Try.underlying53
 have hu25 := Try.underlying25
 have bW := Aside0.mk hr0
 have bZ := Aside0.mk bU
 clear hr0 bU
 have HB := Aside0.mk (Below.refl w.heap.size w)
 have H : (if 0 ≤ (l0.length : Int) then (if ((l0.length : Int) : Int).toNat ≤ 7036874417766 then (laws_toOpOpS.l0 k l0 (List.replicate ((l0.length : Int) : Int).toNat z25) 0) else (none)) else (none)) = some r := h
 clear h
 by_cases c2 : 0 ≤ (l0.length : Int)
 ·rw [if_pos c2] at H
  have bD := eq_true c2
  have bE : decide (0 ≤ (l0.length : Int)) = true := decide_eq_true c2
  clear c2
  by_cases c3 : ((l0.length : Int) : Int).toNat ≤ 7036874417766
  ·rw [if_pos c3] at H
   have bF := eq_true c3
   have bG : decide (((l0.length : Int) : Int).toNat ≤ 7036874417766) = true := decide_eq_true c3
   clear c3
   obtain ⟨y432, hy432⟩ : ∃ y_ : List (S25), y_ = (List.replicate ((l0.length : Int) : Int).toNat z25) := ⟨_, rfl⟩
   replace H : (laws_toOpOpS.l0 k l0 y432 0) = some r := by first | (rw [hy432]; with_reducible exact H) | (have H2_ := (Option.bind_some _ _).symm.trans H; rw [hy432]; with_reducible exact H2_) | (have H2_ := (Option.bind_some _ _).symm.trans H; with_reducible exact H2_) | with_reducible exact H | (rw [hy432]; exact H) | exact H
   have aQ := Aside0.mk hy432
   clear hy432
   have H' := Aside0.mk H
   clear H
   go_enter Try.func16, Try.ntmps16
   go_wp2_with (first | ((with_reducible refine gate_dst (N := 7) rfl ?_); refine Kd.R_make k25 _ 25 rfl (N := 7) rfl 23 _ _ rfl (l0.length : Int) rfl rfl Try.underlying23 (.agg #[(.int .i64 0), (.int .i64 0), (.int .i64 0), (.int .i64 0), (.int .i64 0)]) 40 info25 rfl oD (by omega) z25 (ok := fun _ => True) (okp := fun _ => True) (k25_mkM _ _ _ z25 ) (fun _ hk => hk) trivial (of_decide_eq_true oM) (Nat.le_trans (Nat.mul_le_mul_right _ (of_decide_eq_true oM : (l0.length : Int).toNat ≤ 7036874417766)) (by omega)) (Below.refl _ _) (Nat.le_refl _) ?_; intro bQ w4 ho5 hb hg_ hnew_; clear hg_ hnew_; (first | rw [← aQ.out] at ho5 | (simp only [Int.reduceToNat] at ho5; rw [← aQ.out] at ho5)); have n_ := o2_ (Kd.R_lower ho5 (below_size (oB HB))) (o1_ (below_step (oB HB) hb)); clear HB; obtain ⟨aY, HB⟩ := n_; clear hb ho5))
   go_loopg [4] k (fun kq v4 w' => ∃ (aC : List (S25)) (aA : Int), v4 = .int .i64 aA ∧ Aside0 (laws_toOpOpS.l0 kq l0 aC aA = some r) ∧ Aside0 (kq ≤ k) ∧ Aside0 (Kd.R k25 25 w' w.heap.size (fun _ => True) bQ aC) ∧ Aside0 (Below w.heap.size w w'))
   case atStart => exact ⟨(y432), (0), oU, H', ⟨Nat.le_refl _⟩, ⟨(oR aY)⟩, ⟨(oB HB)⟩⟩
   case round =>
    clear H'
    try clear c1
    try clear c2
    try clear bD
    try clear bE
    try clear p2
    try clear c3
    try clear bF
    try clear bG
    obtain ⟨aC, aA, rfl, HA, HK1, aD, HB⟩ := hrel
    cases gk with
    | zero => exact nomatch (show none = some _ from HA.out)
    | succ k1 =>
     have H := HA.out
     clear HA
     simp only [laws_toOpOpS.l0] at H
     by_cases c6 : aA < (l0.length : Int)
     ·rw [if_pos c6] at H
      have bH : decide (aA < (l0.length : Int)) = true := decide_eq_true c6
      clear c6
      by_cases c7 : 0 ≤ aA
      ·rw [if_pos c7] at H
       have bX : decide (0 ≤ aA) = true := decide_eq_true c7
       clear c7
       replace H := Option.bind_eq_some_iff.mp H
       obtain ⟨⟨aK, aL, aM, aN, aO⟩, bS, H⟩ := H
       (try dsimp only at H)
       have A8 := Aside0.mk bS
       clear bS
       by_cases c9 : aA < (aC.length : Int)
       ·rw [if_pos c9] at H
        have bY : decide (aA < (aC.length : Int)) = true := decide_eq_true c9
        clear c9
        obtain ⟨y441, hy441⟩ : ∃ y_ : List (S25), y_ = (aC.set (aA : Int).toNat (⟨aK, aL, aM, aN, aO⟩ : S25)) := ⟨_, rfl⟩
        replace H : (laws_toOpOpS.l0 k1 l0 y441 (wrap64 (aA + 1))) = some r := by first | (rw [hy441]; with_reducible exact H) | (have H2_ := (Option.bind_some _ _).symm.trans H; rw [hy441]; with_reducible exact H2_) | (have H2_ := (Option.bind_some _ _).symm.trans H; with_reducible exact H2_) | with_reducible exact H | (rw [hy441]; exact H) | exact H
        have aZ := Aside0.mk hy441
        clear hy441
        have H' := Aside0.mk H
        clear H
        have aW : 0 ≤ (aA : Int) := of_decide_eq_true oM
        have aX : aA < (l0.length : Int) := of_decide_eq_true oM
        obtain ⟨bT, bI, aE, aF, aG, aH, aI⟩ := at_T53 bW.out aA aW aX
        cases bI
        replace aE := (HB.out.cell (World.block_lt_of_cell? w _ aE)).trans aE
        replace aF := (HB.out.cell (World.block_lt_of_cell? w _ aF)).trans aF
        replace aG := (HB.out.cell (World.block_lt_of_cell? w _ aG)).trans aG
        replace aH := (HB.out.cell (World.block_lt_of_cell? w _ aH)).trans aH
        replace aI := (HB.out.cell (World.block_lt_of_cell? w _ aI)).trans aI
        replace aW := eq_true aW
        replace aX := eq_true aX
        go_wp2_with (first | ((with_reducible refine gate_callee (f := 34) rfl ?_); refine goesL_ (some 20) rfl rfl Try.func34 oK rfl #[.agg #[.int .i64 ((rd_T53 l0 aA).f0), .int .i64 ((rd_T53 l0 aA).f1), .int .i64 ((rd_T53 l0 aA).f2), .int .i64 ((rd_T53 l0 aA).f3), .int .i64 ((rd_T53 l0 aA).f4)]] rfl oA ?_; (with_reducible refine (laws_toOpOp.calls ((rd_T53 l0 aA).f0) ((rd_T53 l0 aA).f1) ((rd_T53 l0 aA).f2) ((rd_T53 l0 aA).f3) ((rd_T53 l0 aA).f4) aK aL aM aN aO _ A8.out).mono ?_); rintro e aP ⟨rfl, hb⟩; refine ⟨_, rfl, ?_⟩; have n_ := o2_ (Kd.R_below (oR aD) hb) (o1_ (below_step (oB HB) hb)); clear aD HB; obtain ⟨aD, HB⟩ := n_; (try clear hb); (try clear hb2); (try clear hk); (try clear hi); have bO : 0 ≤ (aA : Int) := of_decide_eq_true oM; have bP : (aA : Int) < ((aC.length : Int) : Int) := of_decide_eq_true oM; obtain ⟨aB, bA, bB, bC, gl10, cl10, HG10⟩ := Kd.R_form aD.out (by omega); (first | cases bB | (injection bB with ea_ en_ ec_; (first | subst ea_ | (injection ea_ with ea_; subst ea_)); subst ec_; clear en_)); have GB10 := Aside0.mk bC; have GG10 := Aside0.mk HG10; clear bC gl10 HG10; obtain ⟨ce10, hcl10, hM10, hcc10, hfr10⟩ := Kd.R_elem aD.out z25 (aA : Int) bO bP; obtain rfl := k25_openM hM10; have bJ : aP.cell? ⟨aB, (aA : Int).toNat * 5, none⟩ = some (.int .i64 ((rd_T25 aC aA).f0)) := hcc10 0 _ rfl; have bK : aP.cell? ⟨aB, (aA : Int).toNat * 5 + 1, none⟩ = some (.int .i64 ((rd_T25 aC aA).f1)) := hcc10 1 _ rfl; have bL : aP.cell? ⟨aB, (aA : Int).toNat * 5 + 2, none⟩ = some (.int .i64 ((rd_T25 aC aA).f2)) := hcc10 2 _ rfl; have bM : aP.cell? ⟨aB, (aA : Int).toNat * 5 + 3, none⟩ = some (.int .i64 ((rd_T25 aC aA).f3)) := hcc10 3 _ rfl; have bN : aP.cell? ⟨aB, (aA : Int).toNat * 5 + 4, none⟩ = some (.int .i64 ((rd_T25 aC aA).f4)) := hcc10 4 _ rfl; have hf10_0 : aP.frozen? ⟨aB, (aA : Int).toNat * 5, none⟩ = false := hfr10 0; have hf10_1 : aP.frozen? ⟨aB, (aA : Int).toNat * 5 + 1, none⟩ = false := hfr10 1; have hf10_2 : aP.frozen? ⟨aB, (aA : Int).toNat * 5 + 2, none⟩ = false := hfr10 2; have hf10_3 : aP.frozen? ⟨aB, (aA : Int).toNat * 5 + 3, none⟩ = false := hfr10 3; have hf10_4 : aP.frozen? ⟨aB, (aA : Int).toNat * 5 + 4, none⟩ = false := hfr10 4; clear hcl10 hcc10 hfr10 hM10; replace bO := eq_true bO; replace bP := eq_true bP; have HX12 := Aside0.mk (show Kd.R k25 25 aP w.heap.size (fun _ => True) (.slice (some ⟨aB, 0, none⟩) aC.length bA) aC from (oR aD)); obtain ⟨ce12, hcl12, hM12, hcc12, hfr12⟩ := Kd.R_elem HX12.out z25 (aA : Int) (of_decide_eq_true oM) (by have h_ : (aA : Int) < ((aC.length : Int) : Int) := of_decide_eq_true oM; first | exact h_ | (have e_ := (Kd.R_reads' aD.out).1; omega) | simpa using h_); obtain rfl := k25_openM hM12; have HP12 := Kd.R_seg HX12.out (aA : Int) (of_decide_eq_true oM) (by have h_ : (aA : Int) < ((aC.length : Int) : Int) := of_decide_eq_true oM; first | exact h_ | (have e_ := (Kd.R_reads' aD.out).1; omega) | simpa using h_) (seg := [.int .i64 aK, .int .i64 aL, .int .i64 aM, .int .i64 aN, .int .i64 aO]) (j := 0) hcl12 hcc12 (show 5 ≤ 5 from by decide) (x' := (⟨aK, aL, aM, aN, aO⟩ : S25)) (k25_mkM _ _ _ (⟨aK, aL, aM, aN, aO⟩ : S25) ) (fun _ hk => hk); have aR := hcc12 0 _ rfl; (try simp only [show (k25).sz = 5 from rfl, Nat.mul_one, Nat.add_zero] at aR); have hf12_0 := hfr12 0; (try simp only [show (k25).sz = 5 from rfl, Nat.mul_one, Nat.add_zero] at hf12_0); have aS := hcc12 1 _ rfl; (try simp only [show (k25).sz = 5 from rfl, Nat.mul_one, Nat.add_zero] at aS); have hf12_1 := hfr12 1; (try simp only [show (k25).sz = 5 from rfl, Nat.mul_one, Nat.add_zero] at hf12_1); have aT := hcc12 2 _ rfl; (try simp only [show (k25).sz = 5 from rfl, Nat.mul_one, Nat.add_zero] at aT); have hf12_2 := hfr12 2; (try simp only [show (k25).sz = 5 from rfl, Nat.mul_one, Nat.add_zero] at hf12_2); have aU := hcc12 3 _ rfl; (try simp only [show (k25).sz = 5 from rfl, Nat.mul_one, Nat.add_zero] at aU); have hf12_3 := hfr12 3; (try simp only [show (k25).sz = 5 from rfl, Nat.mul_one, Nat.add_zero] at hf12_3); have aV := hcc12 4 _ rfl; (try simp only [show (k25).sz = 5 from rfl, Nat.mul_one, Nat.add_zero] at aV); have hf12_4 := hfr12 4; (try simp only [show (k25).sz = 5 from rfl, Nat.mul_one, Nat.add_zero] at hf12_4); clear hcl12 hcc12 hfr12 hM12) | ((with_reducible refine gate_store (t := 25) (p := 21) rfl ?_); refine store_event (t := 25) (p := 21) (v := ?vo_w13) (w1 := (((((aP.setCell ⟨aB, (aA : Int).toNat * 5, none⟩ (.int .i64 aK)).setCell ⟨aB, (aA : Int).toNat * 5 + 1, none⟩ (.int .i64 aL)).setCell ⟨aB, (aA : Int).toNat * 5 + 2, none⟩ (.int .i64 aM)).setCell ⟨aB, (aA : Int).toNat * 5 + 3, none⟩ (.int .i64 aN)).setCell ⟨aB, (aA : Int).toNat * 5 + 4, none⟩ (.int .i64 aO))) ?hg ?ho ?hn ?hr ?_; (case ho => rfl); (case hg => rfl); (case hn => rfl); (case hr => first | (go_simp; done) | (go_simp; rfl)); intro bR hw; have hg : aP.grownBy bR (some aB) := (by rw [hw]; exact HP12.2); have hp_ : Kd.R k25 25 bR w.heap.size (fun _ => True) (.slice (some ⟨aB, 0, none⟩) aC.length bA) y441 := (by rw [hw, aZ.out]; exact HP12.1); clear HP12; have n_ := o2_ (hp_) (o1_ ((by rw [hw]; exact below_set (below_set (below_set (below_set (below_set (HB.out) GB10.out) GB10.out) GB10.out) GB10.out) GB10.out : Below w.heap.size w bR))); clear aD HB; obtain ⟨aD, HB⟩ := n_; clear hg hw hp_))
        go_roundg k1
        case measure => have := HK1.out; omega
        case rel => exact ⟨(y441), (wrap64 (aA + 1)), oU, H', ⟨(by have := HK1.out; omega)⟩, ⟨(oR aD)⟩, ⟨(oB HB)⟩⟩
       ·rw [if_neg c9] at H
        exact absurd H (by simp)
      ·rw [if_neg c7] at H
       exact absurd H (by simp)
     ·rw [if_neg c6] at H
      have bH : decide (aA < (l0.length : Int)) = false := decide_eq_false c6
      clear c6
      obtain rfl := Option.some.inj H
      go_wp2
      go_ret
      exact ⟨_, by first | rfl | (simp [errW_none, errW_some] <;> rfl) | (simp [*, errW_none, errW_some] <;> rfl), by (with_reducible repeat (first | apply Kd.R_alloc | apply Kd.R_drewN | apply Kd.R_drew)); exact aD.out, oB HB⟩
  ·rw [if_neg c3] at H
   exact absurd H (by simp)
 ·rw [if_neg c2] at H
  exact absurd H (by simp)

end Go.Proofs.Ytjkaalcocgioaaa.X
