/- What functions of the program come to, each with its proof. No condition but what each theorem states. -/
import Derived.Test.YtjkaalcocgioaaaX0
namespace Go.Proofs.Ytjkaalcocgioaaa.X
open Go.RowKit Go.Proofs.YtjkaalcocgioaaaW.PrintWords Go.Proofs.YtjkaalcocgioaaaW.PrintLast Go.Proofs.YtjkaalcocgioaaaW.PrintMore Go.Proofs.Ytjkaalcocgioaaa.Hyb
attribute [local go_sem] max2_int min2_int max_two min_two max_three min_three max_four min_four
set_option linter.unusedVariables false
set_option linter.unusedSimpArgs false

/-! ### laws_markOpOpS: function 18 -/
def laws_markOpOpS.l0 : Nat → List (S25) → Int → Int → Option (Int × (List (S25)))
 | 0, _, _, _ => none
 | k + 1, x0, x1, x5 => if x5 < (x0.length : Int) then (if 0 ≤ x5 then ((some (x0.set (x5 : Int).toNat (⟨x1, (rd_T25 x0 x5).f1, (rd_T25 x0 x5).f2, (rd_T25 x0 x5).f3, (rd_T25 x0 x5).f4⟩ : S25) : List (S25))).bind fun aI => ((some (aI.set (x5 : Int).toNat (⟨(rd_T25 aI x5).f0, wrap64 (x1 + 1), (rd_T25 aI x5).f2, (rd_T25 aI x5).f3, (rd_T25 aI x5).f4⟩ : S25) : List (S25))).bind fun aG => ((some (aG.set (x5 : Int).toNat (⟨(rd_T25 aG x5).f0, (rd_T25 aG x5).f1, wrap64 ((wrap64 (x1 + 1)) + 1), (rd_T25 aG x5).f3, (rd_T25 aG x5).f4⟩ : S25) : List (S25))).bind fun aE => ((some (aE.set (x5 : Int).toNat (⟨(rd_T25 aE x5).f0, (rd_T25 aE x5).f1, (rd_T25 aE x5).f2, wrap64 ((wrap64 ((wrap64 (x1 + 1)) + 1)) + 1), (rd_T25 aE x5).f4⟩ : S25) : List (S25))).bind fun aC => (laws_markOpOpS.l0 k (aC.set (x5 : Int).toNat (⟨(rd_T25 aC x5).f0, (rd_T25 aC x5).f1, (rd_T25 aC x5).f2, (rd_T25 aC x5).f3, wrap64 ((wrap64 ((wrap64 ((wrap64 (x1 + 1)) + 1)) + 1)) + 1)⟩ : S25)) (wrap64 ((wrap64 ((wrap64 ((wrap64 ((wrap64 (x1 + 1)) + 1)) + 1)) + 1)) + 1)) (wrap64 (x5 + 1))))))) else (none)) else (some (x1, x0))
def laws_markOpOpS.f (k : Nat) (l0 : List (S25)) (a1 : Int) : Option (Int × (List (S25))) := laws_markOpOpS.l0 k l0 a1 0
theorem laws_markOpOpS.mono_l : ∀ k, (∀ y0 y1 y2, LeO (laws_markOpOpS.l0 k y0 y1 y2) (laws_markOpOpS.l0 (k + 1) y0 y1 y2))
 | 0 => (fun _ _ _ r h => nomatch (show none = some r from h))
 | k + 1 => by
  have ih0 := laws_markOpOpS.mono_l k
  ·intro y0 y1 y2
   unfold laws_markOpOpS.l0
   repeat' first
   | (with_reducible exact ih0 _ _ _)
   | (with_reducible exact LeO.refl _)
   | (with_reducible exact LeO.none _)
   | (with_reducible refine LeO.ite ?_ ?_)
   | (with_reducible refine LeO.bind ?_ (fun _ => ?_))
   | exact ih0 _ _ _
   | exact LeO.none _
   | refine LeO.ite ?_ ?_
   | refine LeO.bind ?_ (fun _ => ?_)
theorem laws_markOpOpS.mono : ∀ a0 a1 k, LeO (laws_markOpOpS.f k a0 a1) (laws_markOpOpS.f (k + 1) a0 a1) := by
 intro a0 a1 k
 have ih0 := laws_markOpOpS.mono_l k
 unfold laws_markOpOpS.f
 repeat' first
   | (with_reducible exact ih0 _ _ _)
   | (with_reducible exact LeO.refl _)
   | (with_reducible exact LeO.none _)
   | (with_reducible refine LeO.ite ?_ ?_)
   | (with_reducible refine LeO.bind ?_ (fun _ => ?_))
   | exact ih0 _ _ _
   | exact LeO.none _
   | refine LeO.ite ?_ ?_
   | refine LeO.bind ?_ (fun _ => ?_)
set_option maxHeartbeats 8000000 in
set_option maxRecDepth 100000 in
theorem laws_markOpOpS.calls (k : Nat) (P0_ : Nat → Prop) (aJ : Value) (l0 : List (S25)) (a1 : Int) (r1 : Int) (r2 : List (S25)) (w0 w : World) (hB : Below w0.heap.size w0 w) (ho0 : Kd.R k25 25 w w0.heap.size P0_ aJ l0) (h : laws_markOpOpS.f k l0 a1 = some (r1, r2)) :
  Calls Try.prog 18 #[aJ, .int .i64 a1] w fun e w' => e = .returned (.int .i64 r1) ∧ Kd.R k25 25 w' w0.heap.size (fun k_ => (P0_ k_ ∨ w.heap.size ≤ k_)) aJ r2 ∧ Below w0.heap.size w0 w' ∧ Kept w w' (fun k_ => P0_ k_) := by
 have cG := Aside0.mk (show Kd.R k25 25 w w0.heap.size (fun k_ => (P0_ k_ ∨ w.heap.size ≤ k_)) aJ l0 from Kd.R_mono ho0 (fun k_ hk => (.inl hk)))
 have HK := Aside0.mk (Kept.refl w (fun k_ => P0_ k_))
 have HW0 := Aside0.mk hB.size
 have HB := Aside0.mk hB
 clear hB
 have H : (laws_markOpOpS.l0 k l0 a1 0) = some (r1, r2) := h
 clear h
 have H' := Aside0.mk H
 clear H
 go_enter Try.func18, Try.ntmps18
 go_wp2
 go_loopg [1, 5] k (fun kq v1 v5 w' => ∃ (aB : List (S25)) (aD : Int) (aA : Int), v1 = .int .i64 aD ∧ v5 = .int .i64 aA ∧ Aside0 (laws_markOpOpS.l0 kq aB aD aA = some (r1, r2)) ∧ Aside0 (kq ≤ k) ∧ Aside0 (Kd.R k25 25 w' w0.heap.size (fun k_ => (P0_ k_ ∨ w.heap.size ≤ k_)) aJ aB) ∧ Aside0 (Kept w w' (fun k_ => P0_ k_)) ∧ Aside0 (Below w0.heap.size w0 w'))
 case atStart => exact ⟨(l0), (a1), (0), oU, oU, H', ⟨Nat.le_refl _⟩, ⟨(oR cG)⟩, ⟨(by repeat (first | (with_reducible first | exact HK.out | apply Kept.alloc | apply Kept.drewN | apply Kept.drew) | exact HK.out))⟩, ⟨(oB HB)⟩⟩
 case round =>
  clear H'
  try clear c1
  try clear p2
  obtain ⟨aB, aD, aA, rfl, rfl, HA, HK1, aF, HK, HB⟩ := hrel
  cases gk with
  | zero => exact nomatch (show none = some _ from HA.out)
  | succ k1 =>
   have H := HA.out
   clear HA
   simp only [laws_markOpOpS.l0] at H
   by_cases c3 : aA < (aB.length : Int)
   ·rw [if_pos c3] at H
    have aZ : decide (aA < (aB.length : Int)) = true := decide_eq_true c3
    clear c3
    by_cases c4 : 0 ≤ aA
    ·rw [if_pos c4] at H
     have cH : decide (0 ≤ aA) = true := decide_eq_true c4
     clear c4
     obtain ⟨aI, hy447⟩ : ∃ y_ : List (S25), y_ = (aB.set (aA : Int).toNat (⟨aD, (rd_T25 aB aA).f1, (rd_T25 aB aA).f2, (rd_T25 aB aA).f3, (rd_T25 aB aA).f4⟩ : S25)) := ⟨_, rfl⟩
     replace H : ((some (aI.set (aA : Int).toNat (⟨(rd_T25 aI aA).f0, wrap64 (aD + 1), (rd_T25 aI aA).f2, (rd_T25 aI aA).f3, (rd_T25 aI aA).f4⟩ : S25) : List (S25))).bind fun aG => ((some (aG.set (aA : Int).toNat (⟨(rd_T25 aG aA).f0, (rd_T25 aG aA).f1, wrap64 ((wrap64 (aD + 1)) + 1), (rd_T25 aG aA).f3, (rd_T25 aG aA).f4⟩ : S25) : List (S25))).bind fun aE => ((some (aE.set (aA : Int).toNat (⟨(rd_T25 aE aA).f0, (rd_T25 aE aA).f1, (rd_T25 aE aA).f2, wrap64 ((wrap64 ((wrap64 (aD + 1)) + 1)) + 1), (rd_T25 aE aA).f4⟩ : S25) : List (S25))).bind fun aC => (laws_markOpOpS.l0 k1 (aC.set (aA : Int).toNat (⟨(rd_T25 aC aA).f0, (rd_T25 aC aA).f1, (rd_T25 aC aA).f2, (rd_T25 aC aA).f3, wrap64 ((wrap64 ((wrap64 ((wrap64 (aD + 1)) + 1)) + 1)) + 1)⟩ : S25)) (wrap64 ((wrap64 ((wrap64 ((wrap64 ((wrap64 (aD + 1)) + 1)) + 1)) + 1)) + 1)) (wrap64 (aA + 1)))))) = some (r1, r2) := by first | (rw [hy447]; with_reducible exact H) | (have H2_ := (Option.bind_some _ _).symm.trans H; rw [hy447]; with_reducible exact H2_) | (have H2_ := (Option.bind_some _ _).symm.trans H; with_reducible exact H2_) | with_reducible exact H | (rw [hy447]; exact H) | exact H
     have aU := Aside0.mk hy447
     clear hy447
     obtain ⟨aG, hy448⟩ : ∃ y_ : List (S25), y_ = (aI.set (aA : Int).toNat (⟨(rd_T25 aI aA).f0, wrap64 (aD + 1), (rd_T25 aI aA).f2, (rd_T25 aI aA).f3, (rd_T25 aI aA).f4⟩ : S25)) := ⟨_, rfl⟩
     replace H : ((some (aG.set (aA : Int).toNat (⟨(rd_T25 aG aA).f0, (rd_T25 aG aA).f1, wrap64 ((wrap64 (aD + 1)) + 1), (rd_T25 aG aA).f3, (rd_T25 aG aA).f4⟩ : S25) : List (S25))).bind fun aE => ((some (aE.set (aA : Int).toNat (⟨(rd_T25 aE aA).f0, (rd_T25 aE aA).f1, (rd_T25 aE aA).f2, wrap64 ((wrap64 ((wrap64 (aD + 1)) + 1)) + 1), (rd_T25 aE aA).f4⟩ : S25) : List (S25))).bind fun aC => (laws_markOpOpS.l0 k1 (aC.set (aA : Int).toNat (⟨(rd_T25 aC aA).f0, (rd_T25 aC aA).f1, (rd_T25 aC aA).f2, (rd_T25 aC aA).f3, wrap64 ((wrap64 ((wrap64 ((wrap64 (aD + 1)) + 1)) + 1)) + 1)⟩ : S25)) (wrap64 ((wrap64 ((wrap64 ((wrap64 ((wrap64 (aD + 1)) + 1)) + 1)) + 1)) + 1)) (wrap64 (aA + 1))))) = some (r1, r2) := by first | (rw [hy448]; with_reducible exact H) | (have H2_ := (Option.bind_some _ _).symm.trans H; rw [hy448]; with_reducible exact H2_) | (have H2_ := (Option.bind_some _ _).symm.trans H; with_reducible exact H2_) | with_reducible exact H | (rw [hy448]; exact H) | exact H
     have aV := Aside0.mk hy448
     clear hy448
     obtain ⟨aE, hy449⟩ : ∃ y_ : List (S25), y_ = (aG.set (aA : Int).toNat (⟨(rd_T25 aG aA).f0, (rd_T25 aG aA).f1, wrap64 ((wrap64 (aD + 1)) + 1), (rd_T25 aG aA).f3, (rd_T25 aG aA).f4⟩ : S25)) := ⟨_, rfl⟩
     replace H : ((some (aE.set (aA : Int).toNat (⟨(rd_T25 aE aA).f0, (rd_T25 aE aA).f1, (rd_T25 aE aA).f2, wrap64 ((wrap64 ((wrap64 (aD + 1)) + 1)) + 1), (rd_T25 aE aA).f4⟩ : S25) : List (S25))).bind fun aC => (laws_markOpOpS.l0 k1 (aC.set (aA : Int).toNat (⟨(rd_T25 aC aA).f0, (rd_T25 aC aA).f1, (rd_T25 aC aA).f2, (rd_T25 aC aA).f3, wrap64 ((wrap64 ((wrap64 ((wrap64 (aD + 1)) + 1)) + 1)) + 1)⟩ : S25)) (wrap64 ((wrap64 ((wrap64 ((wrap64 ((wrap64 (aD + 1)) + 1)) + 1)) + 1)) + 1)) (wrap64 (aA + 1)))) = some (r1, r2) := by first | (rw [hy449]; with_reducible exact H) | (have H2_ := (Option.bind_some _ _).symm.trans H; rw [hy449]; with_reducible exact H2_) | (have H2_ := (Option.bind_some _ _).symm.trans H; with_reducible exact H2_) | with_reducible exact H | (rw [hy449]; exact H) | exact H
     have aW := Aside0.mk hy449
     clear hy449
     obtain ⟨aC, hy450⟩ : ∃ y_ : List (S25), y_ = (aE.set (aA : Int).toNat (⟨(rd_T25 aE aA).f0, (rd_T25 aE aA).f1, (rd_T25 aE aA).f2, wrap64 ((wrap64 ((wrap64 (aD + 1)) + 1)) + 1), (rd_T25 aE aA).f4⟩ : S25)) := ⟨_, rfl⟩
     replace H : (laws_markOpOpS.l0 k1 (aC.set (aA : Int).toNat (⟨(rd_T25 aC aA).f0, (rd_T25 aC aA).f1, (rd_T25 aC aA).f2, (rd_T25 aC aA).f3, wrap64 ((wrap64 ((wrap64 ((wrap64 (aD + 1)) + 1)) + 1)) + 1)⟩ : S25)) (wrap64 ((wrap64 ((wrap64 ((wrap64 ((wrap64 (aD + 1)) + 1)) + 1)) + 1)) + 1)) (wrap64 (aA + 1))) = some (r1, r2) := by first | (rw [hy450]; with_reducible exact H) | (have H2_ := (Option.bind_some _ _).symm.trans H; rw [hy450]; with_reducible exact H2_) | (have H2_ := (Option.bind_some _ _).symm.trans H; with_reducible exact H2_) | with_reducible exact H | (rw [hy450]; exact H) | exact H
     have aX := Aside0.mk hy450
     clear hy450
     obtain ⟨y451, hy451⟩ : ∃ y_ : List (S25), y_ = (aC.set (aA : Int).toNat (⟨(rd_T25 aC aA).f0, (rd_T25 aC aA).f1, (rd_T25 aC aA).f2, (rd_T25 aC aA).f3, wrap64 ((wrap64 ((wrap64 ((wrap64 (aD + 1)) + 1)) + 1)) + 1)⟩ : S25)) := ⟨_, rfl⟩
     replace H : (laws_markOpOpS.l0 k1 y451 (wrap64 ((wrap64 ((wrap64 ((wrap64 ((wrap64 (aD + 1)) + 1)) + 1)) + 1)) + 1)) (wrap64 (aA + 1))) = some (r1, r2) := by first | (rw [hy451]; with_reducible exact H) | (have H2_ := (Option.bind_some _ _).symm.trans H; rw [hy451]; with_reducible exact H2_) | (have H2_ := (Option.bind_some _ _).symm.trans H; with_reducible exact H2_) | with_reducible exact H | (rw [hy451]; exact H) | exact H
     have aY := Aside0.mk hy451
     clear hy451
     have H' := Aside0.mk H
     clear H
     obtain ⟨cE, aK, bA⟩ := Kd.R_slice aF.out
     subst bA
     have p5 : 0 ≤ (aA : Int) := of_decide_eq_true oM
     have q5 : (aA : Int) < ((aB.length : Int) : Int) := of_decide_eq_true oM
     obtain ⟨aH, cJ, bD, bE, gl5, cl5, HG5⟩ := Kd.R_form aF.out (by omega)
     (first | cases bD | (injection bD with ea_ en_ ec_; (first | subst ea_ | (injection ea_ with ea_; subst ea_)); subst ec_; clear en_))
     have GB5 := Aside0.mk bE
     have GG5 := Aside0.mk HG5
     clear bE gl5 HG5
     have HMgo5 := Aside0.mk (show (P0_ aH ∨ w.heap.size ≤ aH) from (aF.out.1 _ rfl))
     obtain ⟨ce5, hcl5, hM5, hcc5, hfr5⟩ := Kd.R_elem aF.out z25 (aA : Int) p5 q5
     obtain rfl := k25_openM hM5
     have bF : wr.cell? ⟨aH, (aA : Int).toNat * 5, none⟩ = some (.int .i64 ((rd_T25 aB aA).f0)) := hcc5 0 _ rfl
     have bG : wr.cell? ⟨aH, (aA : Int).toNat * 5 + 1, none⟩ = some (.int .i64 ((rd_T25 aB aA).f1)) := hcc5 1 _ rfl
     have bH : wr.cell? ⟨aH, (aA : Int).toNat * 5 + 2, none⟩ = some (.int .i64 ((rd_T25 aB aA).f2)) := hcc5 2 _ rfl
     have bI : wr.cell? ⟨aH, (aA : Int).toNat * 5 + 3, none⟩ = some (.int .i64 ((rd_T25 aB aA).f3)) := hcc5 3 _ rfl
     have bJ : wr.cell? ⟨aH, (aA : Int).toNat * 5 + 4, none⟩ = some (.int .i64 ((rd_T25 aB aA).f4)) := hcc5 4 _ rfl
     have hf5_0 : wr.frozen? ⟨aH, (aA : Int).toNat * 5, none⟩ = false := hfr5 0
     have hf5_1 : wr.frozen? ⟨aH, (aA : Int).toNat * 5 + 1, none⟩ = false := hfr5 1
     have hf5_2 : wr.frozen? ⟨aH, (aA : Int).toNat * 5 + 2, none⟩ = false := hfr5 2
     have hf5_3 : wr.frozen? ⟨aH, (aA : Int).toNat * 5 + 3, none⟩ = false := hfr5 3
     have hf5_4 : wr.frozen? ⟨aH, (aA : Int).toNat * 5 + 4, none⟩ = false := hfr5 4
     clear hcl5 hcc5 hfr5 hM5
     replace p5 := eq_true p5
     replace q5 := eq_true q5
     have HX11 := Aside0.mk (show Kd.R k25 25 wr w0.heap.size (fun k_ => (P0_ k_ ∨ w.heap.size ≤ k_)) (.slice (some ⟨aH, 0, none⟩) aB.length aK) aB from (oR aF))
     obtain ⟨ce11, hcl11, hM11, hcc11, hfr11⟩ := Kd.R_elem HX11.out z25 (aA : Int) (of_decide_eq_true oM) (by have h_ : (aA : Int) < ((aB.length : Int) : Int) := of_decide_eq_true oM; first | exact h_ | (have e_ := (Kd.R_reads' aF.out).1; omega) | simpa using h_)
     obtain rfl := k25_openM hM11
     have HP11 := Kd.R_seg HX11.out (aA : Int) (of_decide_eq_true oM) (by have h_ : (aA : Int) < ((aB.length : Int) : Int) := of_decide_eq_true oM; first | exact h_ | (have e_ := (Kd.R_reads' aF.out).1; omega) | simpa using h_) (seg := [.int .i64 aD]) (j := 0) hcl11 hcc11 (show 1 ≤ 5 from by decide) (x' := (⟨aD, (rd_T25 aB aA).f1, (rd_T25 aB aA).f2, (rd_T25 aB aA).f3, (rd_T25 aB aA).f4⟩ : S25)) (k25_mkM _ _ _ (⟨aD, (rd_T25 aB aA).f1, (rd_T25 aB aA).f2, (rd_T25 aB aA).f3, (rd_T25 aB aA).f4⟩ : S25) ) (fun _ hk => hk)
     have aP := hcc11 0 _ rfl
     (try simp only [show (k25).sz = 5 from rfl, Nat.mul_one, Nat.add_zero] at aP)
     have hf11_0 := hfr11 0
     (try simp only [show (k25).sz = 5 from rfl, Nat.mul_one, Nat.add_zero] at hf11_0)
     clear hcl11 hcc11 hfr11 hM11
     go_wp2_with (first | ((with_reducible refine gate_store (t := 3) (p := 16) rfl ?_); refine store_event (t := 3) (p := 16) (v := ?vo_w12) (w1 := (wr.setCell ⟨aH, (aA : Int).toNat * 5, none⟩ (.int .i64 aD))) ?hg ?ho ?hn ?hr ?_; (case ho => rfl); (case hg => rfl); (case hn => rfl); (case hr => first | (go_simp; done) | (go_simp; rfl)); intro aL hw; have hg : wr.grownBy aL (some aH) := (by rw [hw]; exact HP11.2); have hp_ : Kd.R k25 25 aL w0.heap.size (fun k_ => (P0_ k_ ∨ w.heap.size ≤ k_)) (.slice (some ⟨aH, 0, none⟩) aB.length aK) aI := (by rw [hw, aU.out]; exact HP11.1); clear HP11; have n_ := o2_ (hp_) (o2_ ((by rw [hw]; exact below_set (HB.out) GB5.out : Below w0.heap.size w0 aL)) (o1_ (Kept.of_grown (S := (fun k_ => P0_ k_)) hg (by repeat (first | (with_reducible first | exact HK.out | apply Kept.alloc | apply Kept.drewN | apply Kept.drew) | exact HK.out)) (fun k_ e_ => (aF.out.1 k_ e_))))); clear aF HB HK; obtain ⟨aF, HB, HK⟩ := n_; clear hg hw hp_; have p6 : 0 ≤ (aA : Int) := of_decide_eq_true oM; have q6 : (aA : Int) < ((aB.length : Int) : Int) := of_decide_eq_true oM; obtain ⟨ce6, hcl6, hM6, hcc6, hfr6⟩ := Kd.R_elem aF.out z25 (aA : Int) p6 q6; obtain rfl := k25_openM hM6; have bK : aL.cell? ⟨aH, (aA : Int).toNat * 5, none⟩ = some (.int .i64 ((rd_T25 aI aA).f0)) := hcc6 0 _ rfl; have bL : aL.cell? ⟨aH, (aA : Int).toNat * 5 + 1, none⟩ = some (.int .i64 ((rd_T25 aI aA).f1)) := hcc6 1 _ rfl; have bM : aL.cell? ⟨aH, (aA : Int).toNat * 5 + 2, none⟩ = some (.int .i64 ((rd_T25 aI aA).f2)) := hcc6 2 _ rfl; have bN : aL.cell? ⟨aH, (aA : Int).toNat * 5 + 3, none⟩ = some (.int .i64 ((rd_T25 aI aA).f3)) := hcc6 3 _ rfl; have bO : aL.cell? ⟨aH, (aA : Int).toNat * 5 + 4, none⟩ = some (.int .i64 ((rd_T25 aI aA).f4)) := hcc6 4 _ rfl; have hf6_0 : aL.frozen? ⟨aH, (aA : Int).toNat * 5, none⟩ = false := hfr6 0; have hf6_1 : aL.frozen? ⟨aH, (aA : Int).toNat * 5 + 1, none⟩ = false := hfr6 1; have hf6_2 : aL.frozen? ⟨aH, (aA : Int).toNat * 5 + 2, none⟩ = false := hfr6 2; have hf6_3 : aL.frozen? ⟨aH, (aA : Int).toNat * 5 + 3, none⟩ = false := hfr6 3; have hf6_4 : aL.frozen? ⟨aH, (aA : Int).toNat * 5 + 4, none⟩ = false := hfr6 4; clear hcl6 hcc6 hfr6 hM6; replace p6 := eq_true p6; replace q6 := eq_true q6; have HX13 := Aside0.mk (show Kd.R k25 25 aL w0.heap.size (fun k_ => (P0_ k_ ∨ w.heap.size ≤ k_)) (.slice (some ⟨aH, 0, none⟩) aB.length aK) aI from (oR aF)); obtain ⟨ce13, hcl13, hM13, hcc13, hfr13⟩ := Kd.R_elem HX13.out z25 (aA : Int) (of_decide_eq_true oM) (by have h_ : (aA : Int) < ((aB.length : Int) : Int) := of_decide_eq_true oM; first | exact h_ | (have e_ := (Kd.R_reads' aF.out).1; omega) | simpa using h_); obtain rfl := k25_openM hM13; have HP13 := Kd.R_seg HX13.out (aA : Int) (of_decide_eq_true oM) (by have h_ : (aA : Int) < ((aB.length : Int) : Int) := of_decide_eq_true oM; first | exact h_ | (have e_ := (Kd.R_reads' aF.out).1; omega) | simpa using h_) (seg := [.int .i64 (wrap64 (aD + 1))]) (j := 1) hcl13 hcc13 (show 2 ≤ 5 from by decide) (x' := (⟨(rd_T25 aI aA).f0, wrap64 (aD + 1), (rd_T25 aI aA).f2, (rd_T25 aI aA).f3, (rd_T25 aI aA).f4⟩ : S25)) (k25_mkM _ _ _ (⟨(rd_T25 aI aA).f0, wrap64 (aD + 1), (rd_T25 aI aA).f2, (rd_T25 aI aA).f3, (rd_T25 aI aA).f4⟩ : S25) ) (fun _ hk => hk); have aQ := hcc13 1 _ rfl; (try simp only [show (k25).sz = 5 from rfl, Nat.mul_one, Nat.add_zero] at aQ); have hf13_1 := hfr13 1; (try simp only [show (k25).sz = 5 from rfl, Nat.mul_one, Nat.add_zero] at hf13_1); clear hcl13 hcc13 hfr13 hM13) | ((with_reducible refine gate_store (t := 3) (p := 23) rfl ?_); refine store_event (t := 3) (p := 23) (v := ?vo_w14) (w1 := (aL.setCell ⟨aH, (aA : Int).toNat * 5 + 1, none⟩ (.int .i64 (wrap64 (aD + 1))))) ?hg ?ho ?hn ?hr ?_; (case ho => rfl); (case hg => rfl); (case hn => rfl); (case hr => first | (go_simp; done) | (go_simp; rfl)); intro aM hw; have hg : aL.grownBy aM (some aH) := (by rw [hw]; exact HP13.2); have hp_ : Kd.R k25 25 aM w0.heap.size (fun k_ => (P0_ k_ ∨ w.heap.size ≤ k_)) (.slice (some ⟨aH, 0, none⟩) aB.length aK) aG := (by rw [hw, aV.out]; exact HP13.1); clear HP13; have n_ := o2_ (hp_) (o2_ ((by rw [hw]; exact below_set (HB.out) GB5.out : Below w0.heap.size w0 aM)) (o1_ (Kept.of_grown (S := (fun k_ => P0_ k_)) hg (by repeat (first | (with_reducible first | exact HK.out | apply Kept.alloc | apply Kept.drewN | apply Kept.drew) | exact HK.out)) (fun k_ e_ => (aF.out.1 k_ e_))))); clear aF HB HK; obtain ⟨aF, HB, HK⟩ := n_; clear hg hw hp_; have p7 : 0 ≤ (aA : Int) := of_decide_eq_true oM; have q7 : (aA : Int) < ((aB.length : Int) : Int) := of_decide_eq_true oM; obtain ⟨ce7, hcl7, hM7, hcc7, hfr7⟩ := Kd.R_elem aF.out z25 (aA : Int) p7 q7; obtain rfl := k25_openM hM7; have bP : aM.cell? ⟨aH, (aA : Int).toNat * 5, none⟩ = some (.int .i64 ((rd_T25 aG aA).f0)) := hcc7 0 _ rfl; have bQ : aM.cell? ⟨aH, (aA : Int).toNat * 5 + 1, none⟩ = some (.int .i64 ((rd_T25 aG aA).f1)) := hcc7 1 _ rfl; have bR : aM.cell? ⟨aH, (aA : Int).toNat * 5 + 2, none⟩ = some (.int .i64 ((rd_T25 aG aA).f2)) := hcc7 2 _ rfl; have bS : aM.cell? ⟨aH, (aA : Int).toNat * 5 + 3, none⟩ = some (.int .i64 ((rd_T25 aG aA).f3)) := hcc7 3 _ rfl; have bT : aM.cell? ⟨aH, (aA : Int).toNat * 5 + 4, none⟩ = some (.int .i64 ((rd_T25 aG aA).f4)) := hcc7 4 _ rfl; have hf7_0 : aM.frozen? ⟨aH, (aA : Int).toNat * 5, none⟩ = false := hfr7 0; have hf7_1 : aM.frozen? ⟨aH, (aA : Int).toNat * 5 + 1, none⟩ = false := hfr7 1; have hf7_2 : aM.frozen? ⟨aH, (aA : Int).toNat * 5 + 2, none⟩ = false := hfr7 2; have hf7_3 : aM.frozen? ⟨aH, (aA : Int).toNat * 5 + 3, none⟩ = false := hfr7 3; have hf7_4 : aM.frozen? ⟨aH, (aA : Int).toNat * 5 + 4, none⟩ = false := hfr7 4; clear hcl7 hcc7 hfr7 hM7; replace p7 := eq_true p7; replace q7 := eq_true q7; have HX15 := Aside0.mk (show Kd.R k25 25 aM w0.heap.size (fun k_ => (P0_ k_ ∨ w.heap.size ≤ k_)) (.slice (some ⟨aH, 0, none⟩) aB.length aK) aG from (oR aF)); obtain ⟨ce15, hcl15, hM15, hcc15, hfr15⟩ := Kd.R_elem HX15.out z25 (aA : Int) (of_decide_eq_true oM) (by have h_ : (aA : Int) < ((aB.length : Int) : Int) := of_decide_eq_true oM; first | exact h_ | (have e_ := (Kd.R_reads' aF.out).1; omega) | simpa using h_); obtain rfl := k25_openM hM15; have HP15 := Kd.R_seg HX15.out (aA : Int) (of_decide_eq_true oM) (by have h_ : (aA : Int) < ((aB.length : Int) : Int) := of_decide_eq_true oM; first | exact h_ | (have e_ := (Kd.R_reads' aF.out).1; omega) | simpa using h_) (seg := [.int .i64 (wrap64 ((wrap64 (aD + 1)) + 1))]) (j := 2) hcl15 hcc15 (show 3 ≤ 5 from by decide) (x' := (⟨(rd_T25 aG aA).f0, (rd_T25 aG aA).f1, wrap64 ((wrap64 (aD + 1)) + 1), (rd_T25 aG aA).f3, (rd_T25 aG aA).f4⟩ : S25)) (k25_mkM _ _ _ (⟨(rd_T25 aG aA).f0, (rd_T25 aG aA).f1, wrap64 ((wrap64 (aD + 1)) + 1), (rd_T25 aG aA).f3, (rd_T25 aG aA).f4⟩ : S25) ) (fun _ hk => hk); have aR := hcc15 2 _ rfl; (try simp only [show (k25).sz = 5 from rfl, Nat.mul_one, Nat.add_zero] at aR); have hf15_2 := hfr15 2; (try simp only [show (k25).sz = 5 from rfl, Nat.mul_one, Nat.add_zero] at hf15_2); clear hcl15 hcc15 hfr15 hM15) | ((with_reducible refine gate_store (t := 3) (p := 30) rfl ?_); refine store_event (t := 3) (p := 30) (v := ?vo_w16) (w1 := (aM.setCell ⟨aH, (aA : Int).toNat * 5 + 2, none⟩ (.int .i64 (wrap64 ((wrap64 (aD + 1)) + 1))))) ?hg ?ho ?hn ?hr ?_; (case ho => rfl); (case hg => rfl); (case hn => rfl); (case hr => first | (go_simp; done) | (go_simp; rfl)); intro aN hw; have hg : aM.grownBy aN (some aH) := (by rw [hw]; exact HP15.2); have hp_ : Kd.R k25 25 aN w0.heap.size (fun k_ => (P0_ k_ ∨ w.heap.size ≤ k_)) (.slice (some ⟨aH, 0, none⟩) aB.length aK) aE := (by rw [hw, aW.out]; exact HP15.1); clear HP15; have n_ := o2_ (hp_) (o2_ ((by rw [hw]; exact below_set (HB.out) GB5.out : Below w0.heap.size w0 aN)) (o1_ (Kept.of_grown (S := (fun k_ => P0_ k_)) hg (by repeat (first | (with_reducible first | exact HK.out | apply Kept.alloc | apply Kept.drewN | apply Kept.drew) | exact HK.out)) (fun k_ e_ => (aF.out.1 k_ e_))))); clear aF HB HK; obtain ⟨aF, HB, HK⟩ := n_; clear hg hw hp_; have p8 : 0 ≤ (aA : Int) := of_decide_eq_true oM; have q8 : (aA : Int) < ((aB.length : Int) : Int) := of_decide_eq_true oM; obtain ⟨ce8, hcl8, hM8, hcc8, hfr8⟩ := Kd.R_elem aF.out z25 (aA : Int) p8 q8; obtain rfl := k25_openM hM8; have bU : aN.cell? ⟨aH, (aA : Int).toNat * 5, none⟩ = some (.int .i64 ((rd_T25 aE aA).f0)) := hcc8 0 _ rfl; have bV : aN.cell? ⟨aH, (aA : Int).toNat * 5 + 1, none⟩ = some (.int .i64 ((rd_T25 aE aA).f1)) := hcc8 1 _ rfl; have bW : aN.cell? ⟨aH, (aA : Int).toNat * 5 + 2, none⟩ = some (.int .i64 ((rd_T25 aE aA).f2)) := hcc8 2 _ rfl; have bX : aN.cell? ⟨aH, (aA : Int).toNat * 5 + 3, none⟩ = some (.int .i64 ((rd_T25 aE aA).f3)) := hcc8 3 _ rfl; have bY : aN.cell? ⟨aH, (aA : Int).toNat * 5 + 4, none⟩ = some (.int .i64 ((rd_T25 aE aA).f4)) := hcc8 4 _ rfl; have hf8_0 : aN.frozen? ⟨aH, (aA : Int).toNat * 5, none⟩ = false := hfr8 0; have hf8_1 : aN.frozen? ⟨aH, (aA : Int).toNat * 5 + 1, none⟩ = false := hfr8 1; have hf8_2 : aN.frozen? ⟨aH, (aA : Int).toNat * 5 + 2, none⟩ = false := hfr8 2; have hf8_3 : aN.frozen? ⟨aH, (aA : Int).toNat * 5 + 3, none⟩ = false := hfr8 3; have hf8_4 : aN.frozen? ⟨aH, (aA : Int).toNat * 5 + 4, none⟩ = false := hfr8 4; clear hcl8 hcc8 hfr8 hM8; replace p8 := eq_true p8; replace q8 := eq_true q8; have HX17 := Aside0.mk (show Kd.R k25 25 aN w0.heap.size (fun k_ => (P0_ k_ ∨ w.heap.size ≤ k_)) (.slice (some ⟨aH, 0, none⟩) aB.length aK) aE from (oR aF)); obtain ⟨ce17, hcl17, hM17, hcc17, hfr17⟩ := Kd.R_elem HX17.out z25 (aA : Int) (of_decide_eq_true oM) (by have h_ : (aA : Int) < ((aB.length : Int) : Int) := of_decide_eq_true oM; first | exact h_ | (have e_ := (Kd.R_reads' aF.out).1; omega) | simpa using h_); obtain rfl := k25_openM hM17; have HP17 := Kd.R_seg HX17.out (aA : Int) (of_decide_eq_true oM) (by have h_ : (aA : Int) < ((aB.length : Int) : Int) := of_decide_eq_true oM; first | exact h_ | (have e_ := (Kd.R_reads' aF.out).1; omega) | simpa using h_) (seg := [.int .i64 (wrap64 ((wrap64 ((wrap64 (aD + 1)) + 1)) + 1))]) (j := 3) hcl17 hcc17 (show 4 ≤ 5 from by decide) (x' := (⟨(rd_T25 aE aA).f0, (rd_T25 aE aA).f1, (rd_T25 aE aA).f2, wrap64 ((wrap64 ((wrap64 (aD + 1)) + 1)) + 1), (rd_T25 aE aA).f4⟩ : S25)) (k25_mkM _ _ _ (⟨(rd_T25 aE aA).f0, (rd_T25 aE aA).f1, (rd_T25 aE aA).f2, wrap64 ((wrap64 ((wrap64 (aD + 1)) + 1)) + 1), (rd_T25 aE aA).f4⟩ : S25) ) (fun _ hk => hk); have aS := hcc17 3 _ rfl; (try simp only [show (k25).sz = 5 from rfl, Nat.mul_one, Nat.add_zero] at aS); have hf17_3 := hfr17 3; (try simp only [show (k25).sz = 5 from rfl, Nat.mul_one, Nat.add_zero] at hf17_3); clear hcl17 hcc17 hfr17 hM17) | ((with_reducible refine gate_store (t := 3) (p := 37) rfl ?_); refine store_event (t := 3) (p := 37) (v := ?vo_w18) (w1 := (aN.setCell ⟨aH, (aA : Int).toNat * 5 + 3, none⟩ (.int .i64 (wrap64 ((wrap64 ((wrap64 (aD + 1)) + 1)) + 1))))) ?hg ?ho ?hn ?hr ?_; (case ho => rfl); (case hg => rfl); (case hn => rfl); (case hr => first | (go_simp; done) | (go_simp; rfl)); intro aO hw; have hg : aN.grownBy aO (some aH) := (by rw [hw]; exact HP17.2); have hp_ : Kd.R k25 25 aO w0.heap.size (fun k_ => (P0_ k_ ∨ w.heap.size ≤ k_)) (.slice (some ⟨aH, 0, none⟩) aB.length aK) aC := (by rw [hw, aX.out]; exact HP17.1); clear HP17; have n_ := o2_ (hp_) (o2_ ((by rw [hw]; exact below_set (HB.out) GB5.out : Below w0.heap.size w0 aO)) (o1_ (Kept.of_grown (S := (fun k_ => P0_ k_)) hg (by repeat (first | (with_reducible first | exact HK.out | apply Kept.alloc | apply Kept.drewN | apply Kept.drew) | exact HK.out)) (fun k_ e_ => (aF.out.1 k_ e_))))); clear aF HB HK; obtain ⟨aF, HB, HK⟩ := n_; clear hg hw hp_; have p9 : 0 ≤ (aA : Int) := of_decide_eq_true oM; have q9 : (aA : Int) < ((aB.length : Int) : Int) := of_decide_eq_true oM; obtain ⟨ce9, hcl9, hM9, hcc9, hfr9⟩ := Kd.R_elem aF.out z25 (aA : Int) p9 q9; obtain rfl := k25_openM hM9; have bZ : aO.cell? ⟨aH, (aA : Int).toNat * 5, none⟩ = some (.int .i64 ((rd_T25 aC aA).f0)) := hcc9 0 _ rfl; have cA : aO.cell? ⟨aH, (aA : Int).toNat * 5 + 1, none⟩ = some (.int .i64 ((rd_T25 aC aA).f1)) := hcc9 1 _ rfl; have cB : aO.cell? ⟨aH, (aA : Int).toNat * 5 + 2, none⟩ = some (.int .i64 ((rd_T25 aC aA).f2)) := hcc9 2 _ rfl; have cC : aO.cell? ⟨aH, (aA : Int).toNat * 5 + 3, none⟩ = some (.int .i64 ((rd_T25 aC aA).f3)) := hcc9 3 _ rfl; have cD : aO.cell? ⟨aH, (aA : Int).toNat * 5 + 4, none⟩ = some (.int .i64 ((rd_T25 aC aA).f4)) := hcc9 4 _ rfl; have hf9_0 : aO.frozen? ⟨aH, (aA : Int).toNat * 5, none⟩ = false := hfr9 0; have hf9_1 : aO.frozen? ⟨aH, (aA : Int).toNat * 5 + 1, none⟩ = false := hfr9 1; have hf9_2 : aO.frozen? ⟨aH, (aA : Int).toNat * 5 + 2, none⟩ = false := hfr9 2; have hf9_3 : aO.frozen? ⟨aH, (aA : Int).toNat * 5 + 3, none⟩ = false := hfr9 3; have hf9_4 : aO.frozen? ⟨aH, (aA : Int).toNat * 5 + 4, none⟩ = false := hfr9 4; clear hcl9 hcc9 hfr9 hM9; replace p9 := eq_true p9; replace q9 := eq_true q9; have HX19 := Aside0.mk (show Kd.R k25 25 aO w0.heap.size (fun k_ => (P0_ k_ ∨ w.heap.size ≤ k_)) (.slice (some ⟨aH, 0, none⟩) aB.length aK) aC from (oR aF)); obtain ⟨ce19, hcl19, hM19, hcc19, hfr19⟩ := Kd.R_elem HX19.out z25 (aA : Int) (of_decide_eq_true oM) (by have h_ : (aA : Int) < ((aB.length : Int) : Int) := of_decide_eq_true oM; first | exact h_ | (have e_ := (Kd.R_reads' aF.out).1; omega) | simpa using h_); obtain rfl := k25_openM hM19; have HP19 := Kd.R_seg HX19.out (aA : Int) (of_decide_eq_true oM) (by have h_ : (aA : Int) < ((aB.length : Int) : Int) := of_decide_eq_true oM; first | exact h_ | (have e_ := (Kd.R_reads' aF.out).1; omega) | simpa using h_) (seg := [.int .i64 (wrap64 ((wrap64 ((wrap64 ((wrap64 (aD + 1)) + 1)) + 1)) + 1))]) (j := 4) hcl19 hcc19 (show 5 ≤ 5 from by decide) (x' := (⟨(rd_T25 aC aA).f0, (rd_T25 aC aA).f1, (rd_T25 aC aA).f2, (rd_T25 aC aA).f3, wrap64 ((wrap64 ((wrap64 ((wrap64 (aD + 1)) + 1)) + 1)) + 1)⟩ : S25)) (k25_mkM _ _ _ (⟨(rd_T25 aC aA).f0, (rd_T25 aC aA).f1, (rd_T25 aC aA).f2, (rd_T25 aC aA).f3, wrap64 ((wrap64 ((wrap64 ((wrap64 (aD + 1)) + 1)) + 1)) + 1)⟩ : S25) ) (fun _ hk => hk); have aT := hcc19 4 _ rfl; (try simp only [show (k25).sz = 5 from rfl, Nat.mul_one, Nat.add_zero] at aT); have hf19_4 := hfr19 4; (try simp only [show (k25).sz = 5 from rfl, Nat.mul_one, Nat.add_zero] at hf19_4); clear hcl19 hcc19 hfr19 hM19) | ((with_reducible refine gate_store (t := 3) (p := 44) rfl ?_); refine store_event (t := 3) (p := 44) (v := ?vo_w20) (w1 := (aO.setCell ⟨aH, (aA : Int).toNat * 5 + 4, none⟩ (.int .i64 (wrap64 ((wrap64 ((wrap64 ((wrap64 (aD + 1)) + 1)) + 1)) + 1))))) ?hg ?ho ?hn ?hr ?_; (case ho => rfl); (case hg => rfl); (case hn => rfl); (case hr => first | (go_simp; done) | (go_simp; rfl)); intro bC hw; have hg : aO.grownBy bC (some aH) := (by rw [hw]; exact HP19.2); have hp_ : Kd.R k25 25 bC w0.heap.size (fun k_ => (P0_ k_ ∨ w.heap.size ≤ k_)) (.slice (some ⟨aH, 0, none⟩) aB.length aK) y451 := (by rw [hw, aY.out]; exact HP19.1); clear HP19; have n_ := o2_ (hp_) (o2_ ((by rw [hw]; exact below_set (HB.out) GB5.out : Below w0.heap.size w0 bC)) (o1_ (Kept.of_grown (S := (fun k_ => P0_ k_)) hg (by repeat (first | (with_reducible first | exact HK.out | apply Kept.alloc | apply Kept.drewN | apply Kept.drew) | exact HK.out)) (fun k_ e_ => (aF.out.1 k_ e_))))); clear aF HB HK; obtain ⟨aF, HB, HK⟩ := n_; clear hg hw hp_))
     go_roundg k1
     case measure => have := HK1.out; omega
     case rel => exact ⟨(y451), (wrap64 ((wrap64 ((wrap64 ((wrap64 ((wrap64 (aD + 1)) + 1)) + 1)) + 1)) + 1)), (wrap64 (aA + 1)), oU, oU, H', ⟨(by have := HK1.out; omega)⟩, ⟨(oR aF)⟩, ⟨(by repeat (first | (with_reducible first | exact HK.out | apply Kept.alloc | apply Kept.drewN | apply Kept.drew) | exact HK.out))⟩, ⟨(oB HB)⟩⟩
    ·rw [if_neg c4] at H
     exact absurd H (by simp)
   ·rw [if_neg c3] at H
    have aZ : decide (aA < (aB.length : Int)) = false := decide_eq_false c3
    clear c3
    simp only [Option.some.injEq, Prod.mk.injEq] at H
    obtain ⟨rfl, rfl⟩ := H
    obtain ⟨cF, cI, bB⟩ := Kd.R_slice aF.out
    subst bB
    go_wp2
    go_ret
    exact ⟨by first | rfl | (simp [errW_none, errW_some] <;> rfl) | (simp [*, errW_none, errW_some] <;> rfl), by (with_reducible repeat (first | apply Kd.R_alloc | apply Kd.R_drewN | apply Kd.R_drew)); exact aF.out, oB HB, by repeat (first | (with_reducible first | exact HK.out | apply Kept.alloc | apply Kept.drewN | apply Kept.drew) | exact HK.out)⟩

end Go.Proofs.Ytjkaalcocgioaaa.X
