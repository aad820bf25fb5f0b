/- What functions of the program come to, each with its proof. No condition but what each theorem states. -/
import Derived.Test.YtmkiajoanblkbaaX0
namespace Go.Proofs.Ytmkiajoanblkbaa.X
open Go.RowKit Go.Proofs.YtmkiajoanblkbaaW.PrintWords Go.Proofs.YtmkiajoanblkbaaW.PrintLast Go.Proofs.YtmkiajoanblkbaaW.PrintMore Go.Proofs.Ytmkiajoanblkbaa.Hyb
attribute [local go_sem] max2_int min2_int max_two min_two max_three min_three max_four min_four
set_option linter.unusedVariables false
set_option linter.unusedSimpArgs false

/-! ### laws_markPixPixS: function 62 -/
def laws_markPixPixS.l0 : Nat → List (S39) → Int → Int → Option (Int × (List (S39)))
 | 0, _, _, _ => none
 | k + 1, x0, x1, x5 => if x5 < (x0.length : Int) then (if 0 ≤ x5 then ((some (x0.set (x5 : Int).toNat (⟨x1, (rd_T39 x0 x5).f1, (rd_T39 x0 x5).f2, (rd_T39 x0 x5).f3⟩ : S39) : List (S39))).bind fun aG => ((some (aG.set (x5 : Int).toNat (⟨(rd_T39 aG x5).f0, wrap64 (x1 + 1), (rd_T39 aG x5).f2, (rd_T39 aG x5).f3⟩ : S39) : List (S39))).bind fun aF => ((some (aF.set (x5 : Int).toNat (⟨(rd_T39 aF x5).f0, (rd_T39 aF x5).f1, wrap64 ((wrap64 (x1 + 1)) + 1), (rd_T39 aF x5).f3⟩ : S39) : List (S39))).bind fun aC => (laws_markPixPixS.l0 k (aC.set (x5 : Int).toNat (⟨(rd_T39 aC x5).f0, (rd_T39 aC x5).f1, (rd_T39 aC x5).f2, wrap64 ((wrap64 ((wrap64 (x1 + 1)) + 1)) + 1)⟩ : S39)) (wrap64 ((wrap64 ((wrap64 ((wrap64 (x1 + 1)) + 1)) + 1)) + 1)) (wrap64 (x5 + 1)))))) else (none)) else (some (x1, x0))
def laws_markPixPixS.f (k : Nat) (l0 : List (S39)) (a1 : Int) : Option (Int × (List (S39))) := laws_markPixPixS.l0 k l0 a1 0
theorem laws_markPixPixS.mono_l : ∀ k, (∀ y0 y1 y2, LeO (laws_markPixPixS.l0 k y0 y1 y2) (laws_markPixPixS.l0 (k + 1) y0 y1 y2))
 | 0 => (fun _ _ _ r h => nomatch (show none = some r from h))
 | k + 1 => by
  have ih0 := laws_markPixPixS.mono_l k
  ·intro y0 y1 y2
   unfold laws_markPixPixS.l0
   repeat' first
   | (with_reducible exact ih0 _ _ _)
   | (with_reducible exact LeO.refl _)
   | (with_reducible exact LeO.none _)
   | (with_reducible refine LeO.ite ?_ ?_)
   | (with_reducible refine LeO.bind ?_ (fun _ => ?_))
   | exact ih0 _ _ _
   | exact LeO.none _
   | refine LeO.ite ?_ ?_
   | refine LeO.bind ?_ (fun _ => ?_)
theorem laws_markPixPixS.mono : ∀ a0 a1 k, LeO (laws_markPixPixS.f k a0 a1) (laws_markPixPixS.f (k + 1) a0 a1) := by
 intro a0 a1 k
 have ih0 := laws_markPixPixS.mono_l k
 unfold laws_markPixPixS.f
 repeat' first
   | (with_reducible exact ih0 _ _ _)
   | (with_reducible exact LeO.refl _)
   | (with_reducible exact LeO.none _)
   | (with_reducible refine LeO.ite ?_ ?_)
   | (with_reducible refine LeO.bind ?_ (fun _ => ?_))
   | exact ih0 _ _ _
   | exact LeO.none _
   | refine LeO.ite ?_ ?_
   | refine LeO.bind ?_ (fun _ => ?_)
set_option maxHeartbeats 8000000 in
set_option maxRecDepth 100000 in
theorem laws_markPixPixS.calls (k : Nat) (P0_ : Nat → Prop) (aI : Value) (l0 : List (S39)) (a1 : Int) (r1 : Int) (r2 : List (S39)) (w0 w : World) (hB : Below w0.heap.size w0 w) (ho0 : Kd.R k39 39 w w0.heap.size P0_ aI l0) (h : laws_markPixPixS.f k l0 a1 = some (r1, r2)) :
  Calls Try.prog 62 #[aI, .int .i64 a1] w fun e w' => e = .returned (.int .i64 r1) ∧ Kd.R k39 39 w' w0.heap.size (fun k_ => (P0_ k_ ∨ w.heap.size ≤ k_)) aI r2 ∧ Below w0.heap.size w0 w' ∧ Kept w w' (fun k_ => P0_ k_) := by
 have bR := Aside0.mk (show Kd.R k39 39 w w0.heap.size (fun k_ => (P0_ k_ ∨ w.heap.size ≤ k_)) aI l0 from Kd.R_mono ho0 (fun k_ hk => (.inl hk)))
 have HK := Aside0.mk (Kept.refl w (fun k_ => P0_ k_))
 have HW0 := Aside0.mk hB.size
 have HB := Aside0.mk hB
 clear hB
 have H : (laws_markPixPixS.l0 k l0 a1 0) = some (r1, r2) := h
 clear h
 have H' := Aside0.mk H
 clear H
 go_enter Try.func62, Try.ntmps62
 go_wp2
 go_loopg [1, 5] k (fun kq v1 v5 w' => ∃ (aB : List (S39)) (aE : Int) (aA : Int), v1 = .int .i64 aE ∧ v5 = .int .i64 aA ∧ Aside0 (laws_markPixPixS.l0 kq aB aE aA = some (r1, r2)) ∧ Aside0 (kq ≤ k) ∧ Aside0 (Kd.R k39 39 w' w0.heap.size (fun k_ => (P0_ k_ ∨ w.heap.size ≤ k_)) aI aB) ∧ Aside0 (Kept w w' (fun k_ => P0_ k_)) ∧ Aside0 (Below w0.heap.size w0 w'))
 case atStart => exact ⟨(l0), (a1), (0), oU, oU, H', ⟨Nat.le_refl _⟩, ⟨(oR bR)⟩, ⟨(by repeat (first | (with_reducible first | exact HK.out | apply Kept.alloc | apply Kept.drewN | apply Kept.drew) | exact HK.out))⟩, ⟨(oB HB)⟩⟩
 case round =>
  clear H'
  try clear p2
  obtain ⟨aB, aE, aA, rfl, rfl, HA, HK1, aD, HK, HB⟩ := hrel
  cases gk with
  | zero => exact nomatch (show none = some _ from HA.out)
  | succ k1 =>
   have H := HA.out
   clear HA
   simp only [laws_markPixPixS.l0] at H
   by_cases c3 : aA < (aB.length : Int)
   ·rw [if_pos c3] at H
    have aV : decide (aA < (aB.length : Int)) = true := decide_eq_true c3
    clear c3
    by_cases c4 : 0 ≤ aA
    ·rw [if_pos c4] at H
     have bS : decide (0 ≤ aA) = true := decide_eq_true c4
     clear c4
     obtain ⟨aG, hy674⟩ : ∃ y_ : List (S39), y_ = (aB.set (aA : Int).toNat (⟨aE, (rd_T39 aB aA).f1, (rd_T39 aB aA).f2, (rd_T39 aB aA).f3⟩ : S39)) := ⟨_, rfl⟩
     replace H : ((some (aG.set (aA : Int).toNat (⟨(rd_T39 aG aA).f0, wrap64 (aE + 1), (rd_T39 aG aA).f2, (rd_T39 aG aA).f3⟩ : S39) : List (S39))).bind fun aF => ((some (aF.set (aA : Int).toNat (⟨(rd_T39 aF aA).f0, (rd_T39 aF aA).f1, wrap64 ((wrap64 (aE + 1)) + 1), (rd_T39 aF aA).f3⟩ : S39) : List (S39))).bind fun aC => (laws_markPixPixS.l0 k1 (aC.set (aA : Int).toNat (⟨(rd_T39 aC aA).f0, (rd_T39 aC aA).f1, (rd_T39 aC aA).f2, wrap64 ((wrap64 ((wrap64 (aE + 1)) + 1)) + 1)⟩ : S39)) (wrap64 ((wrap64 ((wrap64 ((wrap64 (aE + 1)) + 1)) + 1)) + 1)) (wrap64 (aA + 1))))) = some (r1, r2) := by first | (rw [hy674]; with_reducible exact H) | (have H2_ := (Option.bind_some _ _).symm.trans H; rw [hy674]; with_reducible exact H2_) | (have H2_ := (Option.bind_some _ _).symm.trans H; with_reducible exact H2_) | with_reducible exact H | (rw [hy674]; exact H) | exact H
     have aR := Aside0.mk hy674
     clear hy674
     obtain ⟨aF, hy675⟩ : ∃ y_ : List (S39), y_ = (aG.set (aA : Int).toNat (⟨(rd_T39 aG aA).f0, wrap64 (aE + 1), (rd_T39 aG aA).f2, (rd_T39 aG aA).f3⟩ : S39)) := ⟨_, rfl⟩
     replace H : ((some (aF.set (aA : Int).toNat (⟨(rd_T39 aF aA).f0, (rd_T39 aF aA).f1, wrap64 ((wrap64 (aE + 1)) + 1), (rd_T39 aF aA).f3⟩ : S39) : List (S39))).bind fun aC => (laws_markPixPixS.l0 k1 (aC.set (aA : Int).toNat (⟨(rd_T39 aC aA).f0, (rd_T39 aC aA).f1, (rd_T39 aC aA).f2, wrap64 ((wrap64 ((wrap64 (aE + 1)) + 1)) + 1)⟩ : S39)) (wrap64 ((wrap64 ((wrap64 ((wrap64 (aE + 1)) + 1)) + 1)) + 1)) (wrap64 (aA + 1)))) = some (r1, r2) := by first | (rw [hy675]; with_reducible exact H) | (have H2_ := (Option.bind_some _ _).symm.trans H; rw [hy675]; with_reducible exact H2_) | (have H2_ := (Option.bind_some _ _).symm.trans H; with_reducible exact H2_) | with_reducible exact H | (rw [hy675]; exact H) | exact H
     have aS := Aside0.mk hy675
     clear hy675
     obtain ⟨aC, hy676⟩ : ∃ y_ : List (S39), y_ = (aF.set (aA : Int).toNat (⟨(rd_T39 aF aA).f0, (rd_T39 aF aA).f1, wrap64 ((wrap64 (aE + 1)) + 1), (rd_T39 aF aA).f3⟩ : S39)) := ⟨_, rfl⟩
     replace H : (laws_markPixPixS.l0 k1 (aC.set (aA : Int).toNat (⟨(rd_T39 aC aA).f0, (rd_T39 aC aA).f1, (rd_T39 aC aA).f2, wrap64 ((wrap64 ((wrap64 (aE + 1)) + 1)) + 1)⟩ : S39)) (wrap64 ((wrap64 ((wrap64 ((wrap64 (aE + 1)) + 1)) + 1)) + 1)) (wrap64 (aA + 1))) = some (r1, r2) := by first | (rw [hy676]; with_reducible exact H) | (have H2_ := (Option.bind_some _ _).symm.trans H; rw [hy676]; with_reducible exact H2_) | (have H2_ := (Option.bind_some _ _).symm.trans H; with_reducible exact H2_) | with_reducible exact H | (rw [hy676]; exact H) | exact H
     have aT := Aside0.mk hy676
     clear hy676
     obtain ⟨y677, hy677⟩ : ∃ y_ : List (S39), y_ = (aC.set (aA : Int).toNat (⟨(rd_T39 aC aA).f0, (rd_T39 aC aA).f1, (rd_T39 aC aA).f2, wrap64 ((wrap64 ((wrap64 (aE + 1)) + 1)) + 1)⟩ : S39)) := ⟨_, rfl⟩
     replace H : (laws_markPixPixS.l0 k1 y677 (wrap64 ((wrap64 ((wrap64 ((wrap64 (aE + 1)) + 1)) + 1)) + 1)) (wrap64 (aA + 1))) = some (r1, r2) := by first | (rw [hy677]; with_reducible exact H) | (have H2_ := (Option.bind_some _ _).symm.trans H; rw [hy677]; with_reducible exact H2_) | (have H2_ := (Option.bind_some _ _).symm.trans H; with_reducible exact H2_) | with_reducible exact H | (rw [hy677]; exact H) | exact H
     have aU := Aside0.mk hy677
     clear hy677
     have H' := Aside0.mk H
     clear H
     obtain ⟨bV, aM, bU⟩ := Kd.R_slice aD.out
     subst bU
     have p5 : 0 ≤ (aA : Int) := of_decide_eq_true oM
     have q5 : (aA : Int) < ((aB.length : Int) : Int) := of_decide_eq_true oM
     obtain ⟨aH, bW, aY, aZ, gl5, cl5, HG5⟩ := Kd.R_form aD.out (by omega)
     (first | cases aY | (injection aY with ea_ en_ ec_; (first | subst ea_ | (injection ea_ with ea_; subst ea_)); subst ec_; clear en_))
     have GB5 := Aside0.mk aZ
     have GG5 := Aside0.mk HG5
     clear aZ gl5 HG5
     have HMgo5 := Aside0.mk (show (P0_ aH ∨ w.heap.size ≤ aH) from (aD.out.1 _ rfl))
     obtain ⟨ce5, hcl5, hM5, hcc5, hfr5⟩ := Kd.R_elem aD.out z39 (aA : Int) p5 q5
     obtain rfl := k39_openM hM5
     have bA : wr.cell? ⟨aH, (aA : Int).toNat * 4, none⟩ = some (.int .i64 ((rd_T39 aB aA).f0)) := hcc5 0 _ rfl
     have bB : wr.cell? ⟨aH, (aA : Int).toNat * 4 + 1, none⟩ = some (.int .i64 ((rd_T39 aB aA).f1)) := hcc5 1 _ rfl
     have bC : wr.cell? ⟨aH, (aA : Int).toNat * 4 + 2, none⟩ = some (.int .i64 ((rd_T39 aB aA).f2)) := hcc5 2 _ rfl
     have bD : wr.cell? ⟨aH, (aA : Int).toNat * 4 + 3, none⟩ = some (.int .i64 ((rd_T39 aB aA).f3)) := hcc5 3 _ rfl
     have hf5_0 : wr.frozen? ⟨aH, (aA : Int).toNat * 4, none⟩ = false := hfr5 0
     have hf5_1 : wr.frozen? ⟨aH, (aA : Int).toNat * 4 + 1, none⟩ = false := hfr5 1
     have hf5_2 : wr.frozen? ⟨aH, (aA : Int).toNat * 4 + 2, none⟩ = false := hfr5 2
     have hf5_3 : wr.frozen? ⟨aH, (aA : Int).toNat * 4 + 3, none⟩ = false := hfr5 3
     clear hcl5 hcc5 hfr5 hM5
     replace p5 := eq_true p5
     replace q5 := eq_true q5
     have HX10 := Aside0.mk (show Kd.R k39 39 wr w0.heap.size (fun k_ => (P0_ k_ ∨ w.heap.size ≤ k_)) (.slice (some ⟨aH, 0, none⟩) aB.length aM) aB from (oR aD))
     obtain ⟨ce10, hcl10, hM10, hcc10, hfr10⟩ := Kd.R_elem HX10.out z39 (aA : Int) (of_decide_eq_true oM) (by have h_ : (aA : Int) < ((aB.length : Int) : Int) := of_decide_eq_true oM; first | exact h_ | (have e_ := (Kd.R_reads' aD.out).1; omega) | simpa using h_)
     obtain rfl := k39_openM hM10
     have HP10 := Kd.R_seg HX10.out (aA : Int) (of_decide_eq_true oM) (by have h_ : (aA : Int) < ((aB.length : Int) : Int) := of_decide_eq_true oM; first | exact h_ | (have e_ := (Kd.R_reads' aD.out).1; omega) | simpa using h_) (seg := [.int .i64 aE]) (j := 0) hcl10 hcc10 (show 1 ≤ 4 from by decide) (x' := (⟨aE, (rd_T39 aB aA).f1, (rd_T39 aB aA).f2, (rd_T39 aB aA).f3⟩ : S39)) (k39_mkM _ _ _ (⟨aE, (rd_T39 aB aA).f1, (rd_T39 aB aA).f2, (rd_T39 aB aA).f3⟩ : S39) ) (fun _ hk => hk)
     have aN := hcc10 0 _ rfl
     (try simp only [show (k39).sz = 4 from rfl, Nat.mul_one, Nat.add_zero] at aN)
     have hf10_0 := hfr10 0
     (try simp only [show (k39).sz = 4 from rfl, Nat.mul_one, Nat.add_zero] at hf10_0)
     clear hcl10 hcc10 hfr10 hM10
     go_wp2_with (first | ((with_reducible refine gate_store (t := 3) (p := 16) rfl ?_); refine store_event (t := 3) (p := 16) (v := ?vo_w11) (w1 := (wr.setCell ⟨aH, (aA : Int).toNat * 4, none⟩ (.int .i64 aE))) ?hg ?ho ?hn ?hr ?_; (case ho => rfl); (case hg => rfl); (case hn => rfl); (case hr => first | (go_simp; done) | (go_simp; rfl)); intro aJ hw; have hg : wr.grownBy aJ (some aH) := (by rw [hw]; exact HP10.2); have hp_ : Kd.R k39 39 aJ w0.heap.size (fun k_ => (P0_ k_ ∨ w.heap.size ≤ k_)) (.slice (some ⟨aH, 0, none⟩) aB.length aM) aG := (by rw [hw, aR.out]; exact HP10.1); clear HP10; have n_ := o2_ (hp_) (o2_ ((by rw [hw]; exact below_set (HB.out) GB5.out : Below w0.heap.size w0 aJ)) (o1_ (Kept.of_grown (S := (fun k_ => P0_ k_)) hg (by repeat (first | (with_reducible first | exact HK.out | apply Kept.alloc | apply Kept.drewN | apply Kept.drew) | exact HK.out)) (fun k_ e_ => (aD.out.1 k_ e_))))); clear aD HB HK; obtain ⟨aD, HB, HK⟩ := n_; clear hg hw hp_; have p6 : 0 ≤ (aA : Int) := of_decide_eq_true oM; have q6 : (aA : Int) < ((aB.length : Int) : Int) := of_decide_eq_true oM; obtain ⟨ce6, hcl6, hM6, hcc6, hfr6⟩ := Kd.R_elem aD.out z39 (aA : Int) p6 q6; obtain rfl := k39_openM hM6; have bE : aJ.cell? ⟨aH, (aA : Int).toNat * 4, none⟩ = some (.int .i64 ((rd_T39 aG aA).f0)) := hcc6 0 _ rfl; have bF : aJ.cell? ⟨aH, (aA : Int).toNat * 4 + 1, none⟩ = some (.int .i64 ((rd_T39 aG aA).f1)) := hcc6 1 _ rfl; have bG : aJ.cell? ⟨aH, (aA : Int).toNat * 4 + 2, none⟩ = some (.int .i64 ((rd_T39 aG aA).f2)) := hcc6 2 _ rfl; have bH : aJ.cell? ⟨aH, (aA : Int).toNat * 4 + 3, none⟩ = some (.int .i64 ((rd_T39 aG aA).f3)) := hcc6 3 _ rfl; have hf6_0 : aJ.frozen? ⟨aH, (aA : Int).toNat * 4, none⟩ = false := hfr6 0; have hf6_1 : aJ.frozen? ⟨aH, (aA : Int).toNat * 4 + 1, none⟩ = false := hfr6 1; have hf6_2 : aJ.frozen? ⟨aH, (aA : Int).toNat * 4 + 2, none⟩ = false := hfr6 2; have hf6_3 : aJ.frozen? ⟨aH, (aA : Int).toNat * 4 + 3, none⟩ = false := hfr6 3; clear hcl6 hcc6 hfr6 hM6; replace p6 := eq_true p6; replace q6 := eq_true q6; have HX12 := Aside0.mk (show Kd.R k39 39 aJ w0.heap.size (fun k_ => (P0_ k_ ∨ w.heap.size ≤ k_)) (.slice (some ⟨aH, 0, none⟩) aB.length aM) aG from (oR aD)); obtain ⟨ce12, hcl12, hM12, hcc12, hfr12⟩ := Kd.R_elem HX12.out z39 (aA : Int) (of_decide_eq_true oM) (by have h_ : (aA : Int) < ((aB.length : Int) : Int) := of_decide_eq_true oM; first | exact h_ | (have e_ := (Kd.R_reads' aD.out).1; omega) | simpa using h_); obtain rfl := k39_openM hM12; have HP12 := Kd.R_seg HX12.out (aA : Int) (of_decide_eq_true oM) (by have h_ : (aA : Int) < ((aB.length : Int) : Int) := of_decide_eq_true oM; first | exact h_ | (have e_ := (Kd.R_reads' aD.out).1; omega) | simpa using h_) (seg := [.int .i64 (wrap64 (aE + 1))]) (j := 1) hcl12 hcc12 (show 2 ≤ 4 from by decide) (x' := (⟨(rd_T39 aG aA).f0, wrap64 (aE + 1), (rd_T39 aG aA).f2, (rd_T39 aG aA).f3⟩ : S39)) (k39_mkM _ _ _ (⟨(rd_T39 aG aA).f0, wrap64 (aE + 1), (rd_T39 aG aA).f2, (rd_T39 aG aA).f3⟩ : S39) ) (fun _ hk => hk); have aO := hcc12 1 _ rfl; (try simp only [show (k39).sz = 4 from rfl, Nat.mul_one, Nat.add_zero] at aO); have hf12_1 := hfr12 1; (try simp only [show (k39).sz = 4 from rfl, Nat.mul_one, Nat.add_zero] at hf12_1); clear hcl12 hcc12 hfr12 hM12) | ((with_reducible refine gate_store (t := 3) (p := 23) rfl ?_); refine store_event (t := 3) (p := 23) (v := ?vo_w13) (w1 := (aJ.setCell ⟨aH, (aA : Int).toNat * 4 + 1, none⟩ (.int .i64 (wrap64 (aE + 1))))) ?hg ?ho ?hn ?hr ?_; (case ho => rfl); (case hg => rfl); (case hn => rfl); (case hr => first | (go_simp; done) | (go_simp; rfl)); intro aK hw; have hg : aJ.grownBy aK (some aH) := (by rw [hw]; exact HP12.2); have hp_ : Kd.R k39 39 aK w0.heap.size (fun k_ => (P0_ k_ ∨ w.heap.size ≤ k_)) (.slice (some ⟨aH, 0, none⟩) aB.length aM) aF := (by rw [hw, aS.out]; exact HP12.1); clear HP12; have n_ := o2_ (hp_) (o2_ ((by rw [hw]; exact below_set (HB.out) GB5.out : Below w0.heap.size w0 aK)) (o1_ (Kept.of_grown (S := (fun k_ => P0_ k_)) hg (by repeat (first | (with_reducible first | exact HK.out | apply Kept.alloc | apply Kept.drewN | apply Kept.drew) | exact HK.out)) (fun k_ e_ => (aD.out.1 k_ e_))))); clear aD HB HK; obtain ⟨aD, HB, HK⟩ := n_; clear hg hw hp_; have p7 : 0 ≤ (aA : Int) := of_decide_eq_true oM; have q7 : (aA : Int) < ((aB.length : Int) : Int) := of_decide_eq_true oM; obtain ⟨ce7, hcl7, hM7, hcc7, hfr7⟩ := Kd.R_elem aD.out z39 (aA : Int) p7 q7; obtain rfl := k39_openM hM7; have bI : aK.cell? ⟨aH, (aA : Int).toNat * 4, none⟩ = some (.int .i64 ((rd_T39 aF aA).f0)) := hcc7 0 _ rfl; have bJ : aK.cell? ⟨aH, (aA : Int).toNat * 4 + 1, none⟩ = some (.int .i64 ((rd_T39 aF aA).f1)) := hcc7 1 _ rfl; have bK : aK.cell? ⟨aH, (aA : Int).toNat * 4 + 2, none⟩ = some (.int .i64 ((rd_T39 aF aA).f2)) := hcc7 2 _ rfl; have bL : aK.cell? ⟨aH, (aA : Int).toNat * 4 + 3, none⟩ = some (.int .i64 ((rd_T39 aF aA).f3)) := hcc7 3 _ rfl; have hf7_0 : aK.frozen? ⟨aH, (aA : Int).toNat * 4, none⟩ = false := hfr7 0; have hf7_1 : aK.frozen? ⟨aH, (aA : Int).toNat * 4 + 1, none⟩ = false := hfr7 1; have hf7_2 : aK.frozen? ⟨aH, (aA : Int).toNat * 4 + 2, none⟩ = false := hfr7 2; have hf7_3 : aK.frozen? ⟨aH, (aA : Int).toNat * 4 + 3, none⟩ = false := hfr7 3; clear hcl7 hcc7 hfr7 hM7; replace p7 := eq_true p7; replace q7 := eq_true q7; have HX14 := Aside0.mk (show Kd.R k39 39 aK w0.heap.size (fun k_ => (P0_ k_ ∨ w.heap.size ≤ k_)) (.slice (some ⟨aH, 0, none⟩) aB.length aM) aF from (oR aD)); obtain ⟨ce14, hcl14, hM14, hcc14, hfr14⟩ := Kd.R_elem HX14.out z39 (aA : Int) (of_decide_eq_true oM) (by have h_ : (aA : Int) < ((aB.length : Int) : Int) := of_decide_eq_true oM; first | exact h_ | (have e_ := (Kd.R_reads' aD.out).1; omega) | simpa using h_); obtain rfl := k39_openM hM14; have HP14 := Kd.R_seg HX14.out (aA : Int) (of_decide_eq_true oM) (by have h_ : (aA : Int) < ((aB.length : Int) : Int) := of_decide_eq_true oM; first | exact h_ | (have e_ := (Kd.R_reads' aD.out).1; omega) | simpa using h_) (seg := [.int .i64 (wrap64 ((wrap64 (aE + 1)) + 1))]) (j := 2) hcl14 hcc14 (show 3 ≤ 4 from by decide) (x' := (⟨(rd_T39 aF aA).f0, (rd_T39 aF aA).f1, wrap64 ((wrap64 (aE + 1)) + 1), (rd_T39 aF aA).f3⟩ : S39)) (k39_mkM _ _ _ (⟨(rd_T39 aF aA).f0, (rd_T39 aF aA).f1, wrap64 ((wrap64 (aE + 1)) + 1), (rd_T39 aF aA).f3⟩ : S39) ) (fun _ hk => hk); have aP := hcc14 2 _ rfl; (try simp only [show (k39).sz = 4 from rfl, Nat.mul_one, Nat.add_zero] at aP); have hf14_2 := hfr14 2; (try simp only [show (k39).sz = 4 from rfl, Nat.mul_one, Nat.add_zero] at hf14_2); clear hcl14 hcc14 hfr14 hM14) | ((with_reducible refine gate_store (t := 3) (p := 30) rfl ?_); refine store_event (t := 3) (p := 30) (v := ?vo_w15) (w1 := (aK.setCell ⟨aH, (aA : Int).toNat * 4 + 2, none⟩ (.int .i64 (wrap64 ((wrap64 (aE + 1)) + 1))))) ?hg ?ho ?hn ?hr ?_; (case ho => rfl); (case hg => rfl); (case hn => rfl); (case hr => first | (go_simp; done) | (go_simp; rfl)); intro aL hw; have hg : aK.grownBy aL (some aH) := (by rw [hw]; exact HP14.2); have hp_ : Kd.R k39 39 aL w0.heap.size (fun k_ => (P0_ k_ ∨ w.heap.size ≤ k_)) (.slice (some ⟨aH, 0, none⟩) aB.length aM) aC := (by rw [hw, aT.out]; exact HP14.1); clear HP14; have n_ := o2_ (hp_) (o2_ ((by rw [hw]; exact below_set (HB.out) GB5.out : Below w0.heap.size w0 aL)) (o1_ (Kept.of_grown (S := (fun k_ => P0_ k_)) hg (by repeat (first | (with_reducible first | exact HK.out | apply Kept.alloc | apply Kept.drewN | apply Kept.drew) | exact HK.out)) (fun k_ e_ => (aD.out.1 k_ e_))))); clear aD HB HK; obtain ⟨aD, HB, HK⟩ := n_; clear hg hw hp_; have p8 : 0 ≤ (aA : Int) := of_decide_eq_true oM; have q8 : (aA : Int) < ((aB.length : Int) : Int) := of_decide_eq_true oM; obtain ⟨ce8, hcl8, hM8, hcc8, hfr8⟩ := Kd.R_elem aD.out z39 (aA : Int) p8 q8; obtain rfl := k39_openM hM8; have bM : aL.cell? ⟨aH, (aA : Int).toNat * 4, none⟩ = some (.int .i64 ((rd_T39 aC aA).f0)) := hcc8 0 _ rfl; have bN : aL.cell? ⟨aH, (aA : Int).toNat * 4 + 1, none⟩ = some (.int .i64 ((rd_T39 aC aA).f1)) := hcc8 1 _ rfl; have bO : aL.cell? ⟨aH, (aA : Int).toNat * 4 + 2, none⟩ = some (.int .i64 ((rd_T39 aC aA).f2)) := hcc8 2 _ rfl; have bP : aL.cell? ⟨aH, (aA : Int).toNat * 4 + 3, none⟩ = some (.int .i64 ((rd_T39 aC aA).f3)) := hcc8 3 _ rfl; have hf8_0 : aL.frozen? ⟨aH, (aA : Int).toNat * 4, none⟩ = false := hfr8 0; have hf8_1 : aL.frozen? ⟨aH, (aA : Int).toNat * 4 + 1, none⟩ = false := hfr8 1; have hf8_2 : aL.frozen? ⟨aH, (aA : Int).toNat * 4 + 2, none⟩ = false := hfr8 2; have hf8_3 : aL.frozen? ⟨aH, (aA : Int).toNat * 4 + 3, none⟩ = false := hfr8 3; clear hcl8 hcc8 hfr8 hM8; replace p8 := eq_true p8; replace q8 := eq_true q8; have HX16 := Aside0.mk (show Kd.R k39 39 aL w0.heap.size (fun k_ => (P0_ k_ ∨ w.heap.size ≤ k_)) (.slice (some ⟨aH, 0, none⟩) aB.length aM) aC from (oR aD)); obtain ⟨ce16, hcl16, hM16, hcc16, hfr16⟩ := Kd.R_elem HX16.out z39 (aA : Int) (of_decide_eq_true oM) (by have h_ : (aA : Int) < ((aB.length : Int) : Int) := of_decide_eq_true oM; first | exact h_ | (have e_ := (Kd.R_reads' aD.out).1; omega) | simpa using h_); obtain rfl := k39_openM hM16; have HP16 := Kd.R_seg HX16.out (aA : Int) (of_decide_eq_true oM) (by have h_ : (aA : Int) < ((aB.length : Int) : Int) := of_decide_eq_true oM; first | exact h_ | (have e_ := (Kd.R_reads' aD.out).1; omega) | simpa using h_) (seg := [.int .i64 (wrap64 ((wrap64 ((wrap64 (aE + 1)) + 1)) + 1))]) (j := 3) hcl16 hcc16 (show 4 ≤ 4 from by decide) (x' := (⟨(rd_T39 aC aA).f0, (rd_T39 aC aA).f1, (rd_T39 aC aA).f2, wrap64 ((wrap64 ((wrap64 (aE + 1)) + 1)) + 1)⟩ : S39)) (k39_mkM _ _ _ (⟨(rd_T39 aC aA).f0, (rd_T39 aC aA).f1, (rd_T39 aC aA).f2, wrap64 ((wrap64 ((wrap64 (aE + 1)) + 1)) + 1)⟩ : S39) ) (fun _ hk => hk); have aQ := hcc16 3 _ rfl; (try simp only [show (k39).sz = 4 from rfl, Nat.mul_one, Nat.add_zero] at aQ); have hf16_3 := hfr16 3; (try simp only [show (k39).sz = 4 from rfl, Nat.mul_one, Nat.add_zero] at hf16_3); clear hcl16 hcc16 hfr16 hM16) | ((with_reducible refine gate_store (t := 3) (p := 37) rfl ?_); refine store_event (t := 3) (p := 37) (v := ?vo_w17) (w1 := (aL.setCell ⟨aH, (aA : Int).toNat * 4 + 3, none⟩ (.int .i64 (wrap64 ((wrap64 ((wrap64 (aE + 1)) + 1)) + 1))))) ?hg ?ho ?hn ?hr ?_; (case ho => rfl); (case hg => rfl); (case hn => rfl); (case hr => first | (go_simp; done) | (go_simp; rfl)); intro aX hw; have hg : aL.grownBy aX (some aH) := (by rw [hw]; exact HP16.2); have hp_ : Kd.R k39 39 aX w0.heap.size (fun k_ => (P0_ k_ ∨ w.heap.size ≤ k_)) (.slice (some ⟨aH, 0, none⟩) aB.length aM) y677 := (by rw [hw, aU.out]; exact HP16.1); clear HP16; have n_ := o2_ (hp_) (o2_ ((by rw [hw]; exact below_set (HB.out) GB5.out : Below w0.heap.size w0 aX)) (o1_ (Kept.of_grown (S := (fun k_ => P0_ k_)) hg (by repeat (first | (with_reducible first | exact HK.out | apply Kept.alloc | apply Kept.drewN | apply Kept.drew) | exact HK.out)) (fun k_ e_ => (aD.out.1 k_ e_))))); clear aD HB HK; obtain ⟨aD, HB, HK⟩ := n_; clear hg hw hp_))
     go_roundg k1
     case measure => have := HK1.out; omega
     case rel => exact ⟨(y677), (wrap64 ((wrap64 ((wrap64 ((wrap64 (aE + 1)) + 1)) + 1)) + 1)), (wrap64 (aA + 1)), oU, oU, H', ⟨(by have := HK1.out; omega)⟩, ⟨(oR aD)⟩, ⟨(by repeat (first | (with_reducible first | exact HK.out | apply Kept.alloc | apply Kept.drewN | apply Kept.drew) | exact HK.out))⟩, ⟨(oB HB)⟩⟩
    ·rw [if_neg c4] at H
     exact absurd H (by simp)
   ·rw [if_neg c3] at H
    have aV : decide (aA < (aB.length : Int)) = false := decide_eq_false c3
    clear c3
    simp only [Option.some.injEq, Prod.mk.injEq] at H
    obtain ⟨rfl, rfl⟩ := H
    obtain ⟨bQ, bT, aW⟩ := Kd.R_slice aD.out
    subst aW
    go_wp2
    go_ret
    exact ⟨by first | rfl | (simp [errW_none, errW_some] <;> rfl) | (simp [*, errW_none, errW_some] <;> rfl), by (with_reducible repeat (first | apply Kd.R_alloc | apply Kd.R_drewN | apply Kd.R_drew)); exact aD.out, oB HB, by repeat (first | (with_reducible first | exact HK.out | apply Kept.alloc | apply Kept.drewN | apply Kept.drew) | exact HK.out)⟩

end Go.Proofs.Ytmkiajoanblkbaa.X
