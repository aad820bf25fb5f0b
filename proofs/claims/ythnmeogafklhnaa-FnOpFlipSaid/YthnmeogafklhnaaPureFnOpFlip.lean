/- A picture is mirrored place by place, and twice is itself: the pure statement of the law FnOpFlip. No condition. -/
import Derived.Test.YthnmeogafklhnaaPlPicOps
import Derived.Test.YthnmeogafklhnaaPlDrawOp
import Derived.Test.YthnmeogafklhnaaPlEaOk
import Derived.Test.YthnmeogafklhnaaX0
import Derived.Test.YthnmeogafklhnaaX58
namespace Go.Proofs.Ythnmeogafklhnaa.Pure
open Go Go.RowKit Go.Proofs.Ythnmeogafklhnaa.X Go.Proofs.Ythnmeogafklhnaa.Pl Go.Proofs.YthnmeogafklhnaaW.PrintWords Go.Proofs.YthnmeogafklhnaaW.PrintLast Go.Proofs.YthnmeogafklhnaaW.PrintMore
theorem flip_row {a m o : Pic} (g : Ok a) (gm : Ok m) (go : Ok o) (wm : m.w = a.w) (hm : m.h = a.h) (wo : o.w = a.w) (ho : o.h = a.h) (cm : ∀ x y : Int, m.c x y = a.c ((a.w : Int) - 1 - x) y) (co : ∀ x y : Int, o.c x y = a.c x ((a.h : Int) - 1 - y)) (y : Nat) (hy : y < a.h) : ∀ (d i k : Nat), i + d = a.w → 60 ≤ k →
    laws_FnOpFlip.l1 (k + d + 1) (y : Int) (i : Int) (a.w : Int) (a.h : Int) a.l 2 0 0 0 0 3 0 0 0 0 (m.w : Int) (m.h : Int) m.l (o.w : Int) (o.h : Int) o.l = laws_FnOpFlip.l0 k (wrap64 ((y : Int) + 1)) (a.w : Int) (a.h : Int) a.l 2 0 0 0 0 3 0 0 0 0 (m.w : Int) (m.h : Int) m.l (o.w : Int) (o.h : Int) o.l := by
  have ga := g.1
  have ga2 := g.2.1
  intro d
  induction d with
  | zero =>
    intro i k hi hk
    simp only [laws_FnOpFlip.l1]
    rw [if_neg (by omega)]
  | succ d ih =>
    intro i k hi hk
    generalize hq : k + (d + 1) = q
    have e1 : wrap64 (wrap64 ((a.w : Int) - 1) - (i : Int)) = ((a.w - 1 - i : Nat) : Int) := by rw [w64 (x := (a.w : Int) - 1) (by omega) (by omega), w64 (by omega) (by omega)]; omega
    have e2 : wrap64 (wrap64 ((a.h : Int) - 1) - (y : Int)) = ((a.h - 1 - y : Nat) : Int) := by rw [w64 (x := (a.h : Int) - 1) (by omega) (by omega), w64 (by omega) (by omega)]; omega
    have c1 : m.c (i : Int) (y : Int) = a.c ((a.w - 1 - i : Nat) : Int) (y : Int) := (cm _ _).trans (c_eq a.c (by omega) rfl)
    have c2 : o.c (i : Int) (y : Int) = a.c (i : Int) ((a.h - 1 - y : Nat) : Int) := (co _ _).trans (c_eq a.c rfl (by omega))
    simp only [laws_FnOpFlip.l1]
    rw [if_pos (by omega), at_pic gm i y (by omega) (by omega) q (by omega), Option.bind_some, e1, at_pic g (a.w - 1 - i) y (by omega) hy q (by omega), Option.bind_some, c1, if_neg (by simp), at_pic go i y (by omega) (by omega) q (by omega), Option.bind_some, e2, at_pic g i (a.h - 1 - y) (by omega) (by omega) q (by omega), Option.bind_some, c2, if_neg (by simp), w64 (by omega) (by omega), ← hq]
    exact ih (i + 1) k (by omega) hk
theorem flip_all {a m o m2 o2 mo om : Pic} (g : Ok a) (gm : Ok m) (go : Ok o) (wm : m.w = a.w) (hm : m.h = a.h) (wo : o.w = a.w) (ho : o.h = a.h) (cm : ∀ x y : Int, m.c x y = a.c ((a.w : Int) - 1 - x) y) (co : ∀ x y : Int, o.c x y = a.c x ((a.h : Int) - 1 - y))
    (s1 : Run m [⟨2, 0, 0, 0, 0⟩] m2) (s2 : Run o [⟨3, 0, 0, 0, 0⟩] o2) (s3 : Run m [⟨3, 0, 0, 0, 0⟩] mo) (s4 : Run o [⟨2, 0, 0, 0, 0⟩] om)
    (q1 : m2.w = a.w ∧ m2.h = a.h ∧ ∀ x y : Nat, x < m2.w → y < m2.h → m2.c (x : Int) (y : Int) = a.c (x : Int) (y : Int)) (q2 : o2.w = a.w ∧ o2.h = a.h ∧ ∀ x y : Nat, x < o2.w → y < o2.h → o2.c (x : Int) (y : Int) = a.c (x : Int) (y : Int)) (q3 : mo.w = om.w ∧ mo.h = om.h ∧ ∀ x y : Nat, x < mo.w → y < mo.h → mo.c (x : Int) (y : Int) = om.c (x : Int) (y : Int)) : ∀ (d y k : Nat), y + d = a.h → 200 + d * (a.w + 2) ≤ k →
    laws_FnOpFlip.l0 k (y : Int) (a.w : Int) (a.h : Int) a.l 2 0 0 0 0 3 0 0 0 0 (m.w : Int) (m.h : Int) m.l (o.w : Int) (o.h : Int) o.l = some true := by
  have ga := g.1
  have ga2 := g.2.1
  intro d
  induction d with
  | zero =>
    intro y k hi hk
    obtain ⟨k, rfl⟩ : ∃ m, k = m + 1 := ⟨k - 1, by omega⟩
    simp only [laws_FnOpFlip.l0]
    rw [if_neg (by omega), eaDo_ok gm s1 (by simp) k (by simp; omega), Option.bind_some, eaRas_pic (s1.ok gm) (b := a) q1.1 q1.2.1 q1.2.2 k (by omega), Option.bind_some, if_pos rfl,
      eaDo_ok go s2 (by simp) k (by simp; omega), Option.bind_some, eaRas_pic (s2.ok go) (b := a) q2.1 q2.2.1 q2.2.2 k (by omega), Option.bind_some, if_pos rfl,
      eaDo_ok gm s3 (by simp) k (by simp; omega), Option.bind_some, eaDo_ok go s4 (by simp) k (by simp; omega), Option.bind_some, eaRas_pic (s3.ok gm) (b := om) q3.1 q3.2.1 q3.2.2 k (by omega), Option.bind_some]
  | succ d ih =>
    intro y k hi hk
    rw [Nat.succ_mul] at hk
    generalize hz : d * (a.w + 2) = z at *
    obtain ⟨k, rfl⟩ : ∃ m, k = m + a.w + 1 + 1 := ⟨k - a.w - 2, by omega⟩
    simp only [laws_FnOpFlip.l0]
    rw [if_pos (by omega)]
    have e := flip_row g gm go wm hm wo ho cm co y (by omega) a.w 0 k (by omega) (by omega)
    rw [show ((0 : Nat) : Int) = 0 from rfl] at e
    rw [e, w64 (by omega) (by omega)]
    exact ih (y + 1) k (by omega) (by omega)
theorem FnOpFlip : laws_FnOpFlip.Pure := by
  intro l _ hl hb
  obtain ⟨W, H, r, K, A, B, C, D, hd, hD⟩ := drawOpDo_ok l (bytes_wf hb)
  obtain ⟨k, hk⟩ : ∃ k : Nat, 1000 ≤ k := ⟨1000, by omega⟩
  refine ⟨k, ?_⟩
  unfold laws_FnOpFlip.f
  by_cases h : (l.length : Int) > 1048576
  · rw [if_pos h]
  have hr36 := hD.2.2.2.2
  rw [if_neg h, hd k (by omega), Option.bind_some, specRasOk_ok W H r (by omega) k (by omega), Option.bind_some]
  by_cases hr : RasP W H r
  · rw [if_pos (decide_eq_true hr)]
    obtain ⟨a, g, rfl, rfl, rfl⟩ := of_ras hr
    have gw := g.1
    have gh := g.2.1
    obtain ⟨m, dm, wm, hm, cm⟩ := ex_of (does_mirror g)
    obtain ⟨o, dO, wo, ho, co⟩ := ex_of (does_over g)
    obtain ⟨m2, d1, w1, h1, c1⟩ := ex_of (does_mirror dm.2.2)
    obtain ⟨o2, d2, w2, h2, c2⟩ := ex_of (does_over dO.2.2)
    obtain ⟨mo, d3, w3, h3, c3⟩ := ex_of (does_over dm.2.2)
    obtain ⟨om, d4, w4, h4, c4⟩ := ex_of (does_mirror dO.2.2)
    dsimp only at wm hm cm wo ho co w1 h1 c1 w2 h2 c2 w3 h3 c3 w4 h4 c4
    rw [eaDo_ok g (.one dm) (by simp) k (by simp; omega), Option.bind_some, eaDo_ok g (.one dO) (by simp) k (by simp; omega), Option.bind_some]
    have hw8 : a.w + 2 ≤ 8 := Nat.add_le_add_right gw.2 2
    have hmul : a.h * (a.w + 2) ≤ 6 * 8 := Nat.mul_le_mul gh.2 hw8
    have q1 (x y : Nat) (_ : x < m2.w) (_ : y < m2.h) : m2.c (x : Int) (y : Int) = a.c (x : Int) (y : Int) := by rw [c1, cm]; exact c_eq a.c (by omega) (by omega)
    have q2 (x y : Nat) (_ : x < o2.w) (_ : y < o2.h) : o2.c (x : Int) (y : Int) = a.c (x : Int) (y : Int) := by rw [c2, co]; exact c_eq a.c (by omega) (by omega)
    have q3 (x y : Nat) (_ : x < mo.w) (_ : y < mo.h) : mo.c (x : Int) (y : Int) = om.c (x : Int) (y : Int) := by rw [c3, cm, c4, co]; exact c_eq a.c (by omega) (by omega)
    have e := flip_all g dm.2.2 dO.2.2 wm hm wo ho cm co (.one d1) (.one d2) (.one d3) (.one d4) ⟨w1.trans wm, h1.trans hm, q1⟩ ⟨w2.trans wo, h2.trans ho, q2⟩ ⟨(w3.trans wm).trans (w4.trans wo).symm, (h3.trans hm).trans (h4.trans ho).symm, q3⟩ a.h 0 k (Nat.zero_add _) (Nat.le_trans (Nat.add_le_add_left hmul 200) (Nat.le_trans (by decide) hk))
    rw [show ((0 : Nat) : Int) = 0 from rfl] at e
    exact e
  · rw [if_neg (show ¬ decide (RasP W H r) = true from fun h => hr (of_decide_eq_true h)), implRasOk_ok W H r (by omega) k (by omega), Option.bind_some, if_neg (show ¬ decide (RasP W H r) = true from fun h => hr (of_decide_eq_true h)), eaOk_ok, Option.bind_some]
end Go.Proofs.Ythnmeogafklhnaa.Pure
