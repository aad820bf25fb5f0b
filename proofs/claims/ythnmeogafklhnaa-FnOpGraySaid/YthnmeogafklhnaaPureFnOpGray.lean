/- Gray is one part thrice, between the least and the greatest, and stays: the pure statement of the law FnOpGray. No condition. -/
import Derived.Test.YthnmeogafklhnaaPlPicOps
import Derived.Test.YthnmeogafklhnaaPlDrawOp
import Derived.Test.YthnmeogafklhnaaPlEaOk
import Derived.Test.YthnmeogafklhnaaX0
import Derived.Test.YthnmeogafklhnaaX54
namespace Go.Proofs.Ythnmeogafklhnaa.Pure
open Go Go.RowKit Go.Proofs.Ythnmeogafklhnaa.X Go.Proofs.Ythnmeogafklhnaa.Pl Go.Proofs.YthnmeogafklhnaaW.PrintWords Go.Proofs.YthnmeogafklhnaaW.PrintLast Go.Proofs.YthnmeogafklhnaaW.PrintMore
theorem gray_in {q : S38} : ¬ (X.grayS q).f0 < mn q.f0 (mn q.f1 q.f2) ∧ ¬ (X.grayS q).f0 > mx q.f0 (mx q.f1 q.f2) ∧ X.grayS (X.grayS q) = X.grayS q := by
  have h1 : ((77 * q.f0 + 150 * q.f1 + 29 * q.f2) / 256) = (X.grayS q).f0 := rfl
  refine ⟨?_, ?_, ?_⟩
  · unfold mn
    split <;> split at * <;> omega
  · unfold mx
    split <;> split at * <;> omega
  · have e : (77 * (X.grayS q).f0 + 150 * (X.grayS q).f0 + 29 * (X.grayS q).f0) / 256 = (X.grayS q).f0 := by omega
    show S38.mk ((77 * (X.grayS q).f0 + 150 * (X.grayS q).f0 + 29 * (X.grayS q).f0) / 256) ((77 * (X.grayS q).f0 + 150 * (X.grayS q).f0 + 29 * (X.grayS q).f0) / 256) ((77 * (X.grayS q).f0 + 150 * (X.grayS q).f0 + 29 * (X.grayS q).f0) / 256) q.f3 = _
    rw [e]
    rfl
theorem rd_pic {a : Pic} {i : Nat} (h : i < a.l.length) : rd_T38 a.l (i : Int) = a.c ((i % a.w : Nat) : Int) ((i / a.w : Nat) : Int) := by
  rw [rdP h]; exact grid_get _ _ _ _ h
theorem gray_all {a m n mt tm : Pic} (g : Ok a) (gm : Ok m) (wm : m.w = a.w) (lm : m.l.length = a.l.length) (ln : n.l.length = a.l.length) (wn : n.w = a.w) (cm : ∀ x y : Int, m.c x y = X.grayS (a.c x y)) (cn : ∀ x y : Int, n.c x y = X.grayS (m.c x y))
    (s1 : Run m [⟨4, 0, 0, 0, 0⟩] mt) (s2 : Run a [⟨4, 0, 0, 0, 0⟩, ⟨5, 0, 0, 0, 0⟩] tm) (q : mt.w = tm.w ∧ mt.h = tm.h ∧ ∀ x y : Nat, x < mt.w → y < mt.h → mt.c (x : Int) (y : Int) = tm.c (x : Int) (y : Int)) : ∀ (d i k : Nat), i + d = a.l.length → d + 100 < k →
    laws_FnOpGray.l0 k (i : Int) (a.w : Int) (a.h : Int) a.l 5 0 0 0 0 4 0 0 0 0 (m.w : Int) (m.h : Int) m.l (n.w : Int) (n.h : Int) n.l = some true := by
  have hl := ok_len g
  intro d
  induction d with
  | zero =>
    intro i k hi hk
    obtain ⟨k, rfl⟩ : ∃ m, k = m + 1 := ⟨k - 1, by omega⟩
    simp only [laws_FnOpGray.l0]
    rw [if_neg (by omega), rasOk_pic gm k (by omega), Option.bind_some, if_pos rfl, eaDo_ok gm s1 (by simp) k (by simp; omega), Option.bind_some, eaDo_ok g s2 (by simp) k (by simp; omega), Option.bind_some, eaRas_pic (s1.ok gm) (b := tm) q.1 q.2.1 q.2.2 k (by omega), Option.bind_some]
  | succ d ih =>
    intro i k hi hk
    obtain ⟨k, rfl⟩ : ∃ m, k = m + 1 := ⟨k - 1, by omega⟩
    have h1 : i < a.l.length := by omega
    have e1 := rd_pic (a := a) h1
    have e2 := rd_pic (a := m) (i := i) (by omega)
    have e3 := rd_pic (a := n) (i := i) (by omega)
    rw [cm, wm, ← e1] at e2
    rw [cn, cm, wn, ← e1] at e3
    obtain ⟨f1, f2, f3⟩ := gray_in (q := rd_T38 a.l (i : Int))
    rw [f3] at e3
    simp only [laws_FnOpGray.l0]
    rw [if_pos (by omega), if_pos (by omega), if_pos (by omega), e2, e3, if_pos (show (X.grayS (rd_T38 a.l (i : Int))).f0 = (X.grayS (rd_T38 a.l (i : Int))).f1 from rfl), if_pos (show (X.grayS (rd_T38 a.l (i : Int))).f1 = (X.grayS (rd_T38 a.l (i : Int))).f2 from rfl), if_pos (show (X.grayS (rd_T38 a.l (i : Int))).f3 = (rd_T38 a.l (i : Int)).f3 from rfl), if_neg f1, if_neg f2, if_pos (by omega), if_neg (by simp), w64 (by omega) (by omega)]
    exact ih (i + 1) k (by omega) (by omega)
theorem FnOpGray : laws_FnOpGray.Pure := by
  intro l _ hl hb
  obtain ⟨W, H, r, K, A, B, C, D, hd, hD⟩ := drawOpDo_ok l (bytes_wf hb)
  obtain ⟨k, hk⟩ : ∃ k : Nat, 1000 ≤ k := ⟨1000, by omega⟩
  refine ⟨k, ?_⟩
  unfold laws_FnOpGray.f
  by_cases h : (l.length : Int) > 1048576
  · rw [if_pos h]
  have hr36 := hD.2.2.2.2
  rw [if_neg h, hd k (by omega), Option.bind_some, specRasOk_ok W H r (by omega) k (by omega), Option.bind_some]
  by_cases hr : RasP W H r
  · rw [if_pos (decide_eq_true hr)]
    obtain ⟨a, g, rfl, rfl, rfl⟩ := of_ras hr
    obtain ⟨m, dm, wm, hm, cm⟩ := ex_of (does_gray g)
    obtain ⟨n, dn, wn, hn, cn⟩ := ex_of (does_gray dm.2.2)
    obtain ⟨t, dt, wt, ht, ct⟩ := ex_of (does_turn g)
    obtain ⟨mt, d1, w1, h1, c1⟩ := ex_of (does_turn dm.2.2)
    obtain ⟨tm, d2, w2, h2, c2⟩ := ex_of (does_gray dt.2.2)
    dsimp only at wm hm cm wn hn cn wt ht ct w1 h1 c1 w2 h2 c2
    have l1 : m.l.length = a.l.length := by rw [(ok_len dm.2.2).1, (ok_len g).1, wm, hm]
    have l2 : n.l.length = a.l.length := by rw [(ok_len dn.2.2).1, (ok_len g).1, wn, hn, wm, hm]
    have h36 := ok_len g
    rw [eaDo_ok g (.one dm) (by simp) k (by simp; omega), Option.bind_some, eaDo_ok dm.2.2 (.one dn) (by simp) k (by simp; omega), Option.bind_some]
    have q (x y : Nat) (_ : x < mt.w) (_ : y < mt.h) : mt.c (x : Int) (y : Int) = tm.c (x : Int) (y : Int) := by rw [c1, cm, c2, ct, hm]
    have e := gray_all g dm.2.2 wm l1 l2 (wn.trans wm) cm cn (.one d1) (.cons dt (.one d2)) ⟨(w1.trans hm).trans (w2.trans wt).symm, (h1.trans wm).trans (h2.trans ht).symm, q⟩ a.l.length 0 k (Nat.zero_add _) (by omega)
    rw [show ((0 : Nat) : Int) = 0 from rfl] at e
    exact e
  · rw [if_neg (show ¬ decide (RasP W H r) = true from fun h => hr (of_decide_eq_true h)), implRasOk_ok W H r (by omega) k (by omega), Option.bind_some, if_neg (show ¬ decide (RasP W H r) = true from fun h => hr (of_decide_eq_true h)), eaOk_ok, Option.bind_some]
end Go.Proofs.Ythnmeogafklhnaa.Pure
