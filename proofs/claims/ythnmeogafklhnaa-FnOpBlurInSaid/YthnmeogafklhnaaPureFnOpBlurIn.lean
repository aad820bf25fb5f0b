/- A blurred place hangs on the places about it alone: the pure statement of the law FnOpBlurIn. No condition. -/
import Derived.Test.YthnmeogafklhnaaPlBlur
import Derived.Test.YthnmeogafklhnaaPlDrawOp
import Derived.Test.YthnmeogafklhnaaPlEaOk
import Derived.Test.YthnmeogafklhnaaX0
import Derived.Test.YthnmeogafklhnaaX52
namespace Go.Proofs.Ythnmeogafklhnaa.Pure
open Go Go.RowKit Go.Proofs.Ythnmeogafklhnaa.X Go.Proofs.Ythnmeogafklhnaa.Pl Go.Proofs.YthnmeogafklhnaaW.PrintWords Go.Proofs.YthnmeogafklhnaaW.PrintLast Go.Proofs.YthnmeogafklhnaaW.PrintMore
theorem mx_pred (i : Nat) (h : i ≤ 100) : mx 0 (wrap64 ((i : Int) - 1)) = ((i - 1 : Nat) : Int) := by
  rw [w64 (by omega) (by omega)]
  unfold mx
  split <;> omega
theorem mn_about (i W : Nat) (h : i < W) (hW : W ≤ 100) : wrap64 (wrap64 (mn (wrap64 ((W : Int) - 1)) (wrap64 ((i : Int) + 1)) - ((i - 1 : Nat) : Int)) + 1) = ((X.aboutN i W : Nat) : Int) := by
  rw [w64 (x := (W : Int) - 1) (by omega) (by omega), w64 (x := (i : Int) + 1) (by omega) (by omega)]
  unfold mn X.aboutN
  split
  · rw [w64 (x := (i : Int) + 1 - ((i - 1 : Nat) : Int)) (by omega) (by omega), w64 (by omega) (by omega)]; omega
  · rw [w64 (x := (W : Int) - 1 - ((i - 1 : Nat) : Int)) (by omega) (by omega), w64 (by omega) (by omega)]; omega
theorem about_fit {i W : Nat} (h : i < W) : i - 1 + X.aboutN i W ≤ W := by unfold X.aboutN; omega
theorem about_cut {i W : Nat} (h : i < W) : X.aboutN (i - (i - 1)) (X.aboutN i W) = X.aboutN i W := by unfold X.aboutN; omega
theorem about_at {i W : Nat} (h : i < W) : i - (i - 1) < X.aboutN i W := by unfold X.aboutN; omega
theorem about_six {i W : Nat} : X.aboutN i W ≤ W + 1 := by unfold X.aboutN; omega
theorem blur_row {a b : Pic} (g : Ok a) (gb : Ok b) (wb : b.w = a.w) (hb : b.h = a.h) (cb : ∀ x y : Int, b.c x y = blurC a x y) (y : Nat) (hy : y < a.h) : ∀ (d i k : Nat), i + d = a.w → 60 ≤ k →
    laws_FnOpBlurIn.l1 (k + d + 1) (y : Int) (i : Int) (a.w : Int) (a.h : Int) a.l 6 0 0 0 0 (b.w : Int) (b.h : Int) b.l = laws_FnOpBlurIn.l0 k (wrap64 ((y : Int) + 1)) (a.w : Int) (a.h : Int) a.l 6 0 0 0 0 (b.w : Int) (b.h : Int) b.l := by
  have ga := g.1
  have ga2 := g.2.1
  intro d
  induction d with
  | zero =>
    intro i k hi hk
    simp only [laws_FnOpBlurIn.l1]
    rw [if_neg (by omega)]
  | succ d ih =>
    intro i k hi hk
    generalize hq : k + (d + 1) = q
    have hx : i < a.w := by omega
    obtain ⟨p, dp, wp, hp, cp⟩ := ex_of (does_crop g (i - 1) (y - 1) (X.aboutN i a.w) (X.aboutN y a.h) (about_pos hx) (about_pos hy) (about_fit hx) (about_fit hy))
    obtain ⟨s, ds, ws, hs, cs⟩ := ex_of (does_blur dp.2.2)
    dsimp only at wp hp cp ws hs cs
    have c1 : s.c ((i - (i - 1) : Nat) : Int) ((y - (y - 1) : Nat) : Int) = b.c (i : Int) (y : Int) := by
      rw [cs, cb]
      refine blurC_eq (by rw [wp]; exact about_cut hx) (by rw [hp]; exact about_cut hy) fun c r _ _ => ?_
      rw [cp]
      exact c_eq a.c (by omega) (by omega)
    have i1 : i - (i - 1) < s.w := by rw [ws, wp]; exact about_at hx
    have i2 : y - (y - 1) < s.h := by rw [hs, hp]; exact about_at hy
    have r : Run a [⟨1, ((i - 1 : Nat) : Int), ((y - 1 : Nat) : Int), ((X.aboutN i a.w : Nat) : Int), ((X.aboutN y a.h : Nat) : Int)⟩, ⟨6, 0, 0, 0, 0⟩] s := .cons dp (.one ds)
    clear dp wp hp cp ws hs cs
    simp only [laws_FnOpBlurIn.l1]
    rw [if_pos (by omega), mx_pred i (by omega), mx_pred y (by omega), mn_about i a.w hx (by omega), mn_about y a.h hy (by omega), eaDo_ok g r (by simp) q (by simp; omega), Option.bind_some, w64 (x := (i : Int) - ((i - 1 : Nat) : Int)) (by omega) (by omega), w64 (x := (y : Int) - ((y - 1 : Nat) : Int)) (by omega) (by omega),
      show (i : Int) - ((i - 1 : Nat) : Int) = ((i - (i - 1) : Nat) : Int) by omega, show (y : Int) - ((y - 1 : Nat) : Int) = ((y - (y - 1) : Nat) : Int) by omega, at_pic ds.2.2 _ _ i1 i2 q (by omega), Option.bind_some, at_pic gb i y (by omega) (by omega) q (by omega), Option.bind_some, c1, if_neg (by simp), w64 (by omega) (by omega), ← hq]
    exact ih (i + 1) k (by omega) hk
theorem blur_all {a b : Pic} (g : Ok a) (gb : Ok b) (wb : b.w = a.w) (hb : b.h = a.h) (cb : ∀ x y : Int, b.c x y = blurC a x y) : ∀ (d y k : Nat), y + d = a.h → 200 + d * (a.w + 2) ≤ k →
    laws_FnOpBlurIn.l0 k (y : Int) (a.w : Int) (a.h : Int) a.l 6 0 0 0 0 (b.w : Int) (b.h : Int) b.l = some true := by
  have ga := g.1
  have ga2 := g.2.1
  intro d
  induction d with
  | zero =>
    intro y k hi hk
    obtain ⟨k, rfl⟩ : ∃ m, k = m + 1 := ⟨k - 1, by omega⟩
    simp only [laws_FnOpBlurIn.l0]
    rw [if_neg (by omega), rasOk_pic gb k (by omega), Option.bind_some]
  | succ d ih =>
    intro y k hi hk
    rw [Nat.succ_mul] at hk
    generalize hz : d * (a.w + 2) = z at *
    obtain ⟨k, rfl⟩ : ∃ m, k = m + a.w + 1 + 1 := ⟨k - a.w - 2, by omega⟩
    simp only [laws_FnOpBlurIn.l0]
    rw [if_pos (by omega)]
    have e := blur_row g gb wb hb cb y (by omega) a.w 0 k (by omega) (by omega)
    rw [show ((0 : Nat) : Int) = 0 from rfl] at e
    rw [e, w64 (by omega) (by omega)]
    exact ih (y + 1) k (by omega) (by omega)
theorem FnOpBlurIn : laws_FnOpBlurIn.Pure := by
  intro l _ hl hb
  obtain ⟨W, H, r, K, A, B, C, D, hd, hD⟩ := drawOpDo_ok l (bytes_wf hb)
  obtain ⟨k, hk⟩ : ∃ k : Nat, 1000 ≤ k := ⟨1000, by omega⟩
  refine ⟨k, ?_⟩
  unfold laws_FnOpBlurIn.f
  by_cases h : (l.length : Int) > 1048576
  · rw [if_pos h]
  have hr36 := hD.2.2.2.2
  rw [if_neg h, hd k (by omega), Option.bind_some, specRasOk_ok W H r (by omega) k (by omega), Option.bind_some]
  by_cases hr : RasP W H r
  · rw [if_pos (decide_eq_true hr)]
    obtain ⟨a, g, rfl, rfl, rfl⟩ := of_ras hr
    have gw := g.1
    have gh := g.2.1
    obtain ⟨b, d, wb, hb', cb⟩ := ex_of (does_blur g)
    dsimp only at wb hb' cb
    rw [eaDo_ok g (.one d) (by simp) k (by simp; omega), Option.bind_some]
    have hw8 : a.w + 2 ≤ 8 := Nat.add_le_add_right gw.2 2
    have hmul : a.h * (a.w + 2) ≤ 6 * 8 := Nat.mul_le_mul gh.2 hw8
    have e := blur_all g d.2.2 wb hb' cb a.h 0 k (Nat.zero_add _) (Nat.le_trans (Nat.add_le_add_left hmul 200) (Nat.le_trans (by decide) hk))
    rw [show ((0 : Nat) : Int) = 0 from rfl] at e
    exact e
  · rw [if_neg (show ¬ decide (RasP W H r) = true from fun h => hr (of_decide_eq_true h)), implRasOk_ok W H r (by omega) k (by omega), Option.bind_some, if_neg (show ¬ decide (RasP W H r) = true from fun h => hr (of_decide_eq_true h)), eaOk_ok, Option.bind_some]
end Go.Proofs.Ythnmeogafklhnaa.Pure
