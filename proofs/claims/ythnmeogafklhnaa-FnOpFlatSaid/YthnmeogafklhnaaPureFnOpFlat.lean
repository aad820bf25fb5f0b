/- What is behind shows where it may: the pure statement of the law FnOpFlat. No condition. -/
import Derived.Test.YthnmeogafklhnaaPlPicOps
import Derived.Test.YthnmeogafklhnaaPlDrawOp
import Derived.Test.YthnmeogafklhnaaPlDrawPix
import Derived.Test.YthnmeogafklhnaaPlPixOkS
import Derived.Test.YthnmeogafklhnaaPlEaOk
import Derived.Test.YthnmeogafklhnaaX0
import Derived.Test.YthnmeogafklhnaaX62
namespace Go.Proofs.Ythnmeogafklhnaa.Pure
open Go Go.RowKit Go.Proofs.Ythnmeogafklhnaa.X Go.Proofs.Ythnmeogafklhnaa.Pl Go.Proofs.YthnmeogafklhnaaW.PrintWords Go.Proofs.YthnmeogafklhnaaW.PrintLast Go.Proofs.YthnmeogafklhnaaW.PrintMore
theorem over_in {a f b : Int} (h0 : 0 ≤ a) (h1 : a ≤ 255) : mn f b ≤ X.overS a f b ∧ X.overS a f b ≤ mx f b := by
  have l1 : mn f b ≤ f := by unfold mn; split <;> omega
  have l2 : mn f b ≤ b := by unfold mn; split <;> omega
  have u1 : f ≤ mx f b := by unfold mx; split <;> omega
  have u2 : b ≤ mx f b := by unfold mx; split <;> omega
  generalize mn f b = m at *
  generalize mx f b = M at *
  have p1 : m * a ≤ f * a := Int.mul_le_mul_of_nonneg_right l1 h0
  have p2 : m * (255 - a) ≤ b * (255 - a) := Int.mul_le_mul_of_nonneg_right l2 (by omega)
  have p3 : f * a ≤ M * a := Int.mul_le_mul_of_nonneg_right u1 h0
  have p4 : b * (255 - a) ≤ M * (255 - a) := Int.mul_le_mul_of_nonneg_right u2 (by omega)
  have e1 : m * a + m * (255 - a) = m * 255 := by rw [← Int.mul_add]; congr 1; omega
  have e2 : M * a + M * (255 - a) = M * 255 := by rw [← Int.mul_add]; congr 1; omega
  unfold X.overS
  generalize f * a = u at *
  generalize b * (255 - a) = v at *
  generalize m * a = m1 at *
  generalize m * (255 - a) = m2 at *
  generalize M * a = M1 at *
  generalize M * (255 - a) = M2 at *
  omega
theorem over_all (f b : Int) : X.overS 255 f b = f := by unfold X.overS; omega
theorem over_no (f b : Int) : X.overS 0 f b = b := by unfold X.overS; omega
theorem flat_all {A B C : Int} {p : S38} (h : p.f3 = 255) : X.flatS A B C p = p := by
  unfold X.flatS
  rw [h, over_all, over_all, over_all]
  cases p
  simp only at h
  rw [h]
theorem flat_no {A B C : Int} {p : S38} (h : p.f3 = 0) : X.flatS A B C p = ⟨A, B, C, 255⟩ := by
  unfold X.flatS
  rw [h, over_no, over_no, over_no]
theorem rd_pic {a : Pic} {i : Nat} (h : i < a.l.length) : rd_T38 a.l (i : Int) = a.c ((i % a.w : Nat) : Int) ((i / a.w : Nat) : Int) := by
  rw [rdP h]; exact grid_get _ _ _ _ h
theorem flat_j (k : Nat) (i W H : Int) (l : List S38) (A B C D W2 H2 : Int) (l2 : List S38) (q0 q1 q2 q3 o0 o1 o2 o3 : Int) (h1 : ¬ q0 < wrap64 (mn o0 A - 1)) (h2 : ¬ q0 > mx o0 A) :
    laws_FnOpFlat.j3 (k + 1) i false W H l A B C D W2 H2 l2 q0 q1 q2 q3 o0 o1 o2 o3 = laws_FnOpFlat.l0 k (wrap64 (i + 1)) W H l A B C D W2 H2 l2 := by
  simp only [laws_FnOpFlat.j3]
  rw [if_neg (by decide), if_neg h1, if_neg h2]
theorem flat_l {a m : Pic} (g : Ok a) (A B C D : Int) (hA : X.PartG A) (wm : m.w = a.w) (lm : m.l.length = a.l.length) (cm : ∀ x y : Int, m.c x y = X.flatS A B C (a.c x y)) : ∀ (d i k : Nat), i + d = a.l.length → 2 * d + 10 < k →
    laws_FnOpFlat.l0 k (i : Int) (a.w : Int) (a.h : Int) a.l A B C D (m.w : Int) (m.h : Int) m.l = some true := by
  have hl := ok_len g
  intro d
  induction d with
  | zero =>
    intro i k hi hk
    obtain ⟨k, rfl⟩ : ∃ m, k = m + 1 := ⟨k - 1, by omega⟩
    simp only [laws_FnOpFlat.l0]
    rw [if_neg (by omega)]
  | succ d ih =>
    intro i k hi hk
    obtain ⟨k, rfl⟩ : ∃ m, k = m + 1 + 1 := ⟨k - 2, by omega⟩
    have h1 : i < a.l.length := by omega
    have gw := g.1
    have hx : i % a.w < a.w := Nat.mod_lt _ (by omega)
    have hy : i / a.w < a.h := Nat.div_lt_of_lt_mul (by rw [← hl.1]; exact h1)
    have e1 := rd_pic (a := a) h1
    have e2 := rd_pic (a := m) (i := i) (by omega)
    have hp := g.2.2 _ _ hx hy
    rw [← e1] at hp
    rw [cm, wm, ← e1] at e2
    have hn := ih (i + 1) k (by omega) (by omega)
    rw [show ((i + 1 : Nat) : Int) = wrap64 ((i : Int) + 1) by rw [w64 (by omega) (by omega)]; omega] at hn
    simp only [laws_FnOpFlat.l0]
    rw [if_pos (by omega), if_pos (by omega), if_pos (by omega), e2, if_pos (show (X.flatS A B C (rd_T38 a.l (i : Int))).f3 = 255 from rfl)]
    clear e1 e2 hx hy
    generalize rd_T38 a.l (i : Int) = p at *
    obtain ⟨o1, o2⟩ := over_in (f := p.f0) (b := A) hp.2.2.2.1 hp.2.2.2.2
    unfold X.PartG at hA
    have hp0 : 0 ≤ p.f0 ∧ p.f0 ≤ 255 := hp.1
    have hmn : 0 ≤ mn p.f0 A ∧ mn p.f0 A ≤ 255 := by unfold mn; split <;> omega
    have w1 : wrap64 (mn p.f0 A - 1) = mn p.f0 A - 1 := w64 (by omega) (by omega)
    by_cases c1 : p.f3 = 255
    · rw [flat_all c1, if_pos c1, if_neg (by simp), if_neg (by omega)]
      rw [c1, over_all] at o1 o2
      rw [flat_j _ _ _ _ _ _ _ _ _ _ _ _ _ _ _ _ _ _ _ _ (by omega) (by omega)]
      exact hn
    · rw [if_neg c1]
      by_cases c0 : p.f3 = 0
      · rw [if_pos c0, flat_no c0]
        rw [c0, over_no] at o1 o2
        simp only [beq_self_eq_true, Bool.not_true, Bool.false_or]
        rw [flat_j _ _ _ _ _ _ _ _ _ _ _ _ _ _ _ _ _ _ _ _ (by omega) (by omega)]
        exact hn
      · rw [if_neg c0]
        have f1 : ¬ (X.flatS A B C p).f0 < wrap64 (mn p.f0 A - 1) := show ¬ X.overS p.f3 p.f0 A < wrap64 (mn p.f0 A - 1) by omega
        have f2 : ¬ (X.flatS A B C p).f0 > mx p.f0 A := show ¬ X.overS p.f3 p.f0 A > mx p.f0 A by omega
        exact (flat_j _ _ _ _ _ _ _ _ _ _ _ _ _ _ _ _ _ _ _ _ f1 f2).trans hn
theorem FnOpFlat : laws_FnOpFlat.Pure := by
  intro l _ hl hb
  obtain ⟨W, H, r, K, A1, B1, C1, D1, hd, hD⟩ := drawOpDo_ok l (bytes_wf hb)
  obtain ⟨A, B, C, D, hp⟩ := drawPixOk_ok l (bytes_wf hb)
  obtain ⟨k, hk⟩ : ∃ k : Nat, 1000 ≤ k := ⟨1000, by omega⟩
  refine ⟨k + 1, ?_⟩
  unfold laws_FnOpFlat.f
  by_cases h : (l.length : Int) > 1048576
  · rw [if_pos h]
  have hr36 := hD.2.2.2.2
  have hj : laws_FnOpFlat.j0 (k + 1) true W H r A B C D = some true := by
    simp only [laws_FnOpFlat.j0]
    rw [if_pos trivial, implRasOk_ok W H r (by omega) k (by omega), Option.bind_some, specRasOk_ok W H r (by omega) k (by omega), Option.bind_some, if_pos (by simp), eaOk_ok, Option.bind_some]
  rw [if_neg h, hd (k + 1) (by omega), Option.bind_some, hp (k + 1) (by omega), Option.bind_some, specRasOk_ok W H r (by omega) (k + 1) (by omega), Option.bind_some]
  by_cases hr : RasP W H r
  · rw [if_pos (decide_eq_true hr), specPixOk_ok, Option.bind_some]
    by_cases hq : PixP A B C D
    · rw [decide_eq_true hq]
      obtain ⟨a, g, rfl, rfl, rfl⟩ := of_ras hr
      obtain ⟨m, dm, wm, hm, cm⟩ := ex_of (does_flat g A B C hq.1 hq.2.1 hq.2.2.1)
      obtain ⟨n, dn, wn, hn, cn⟩ := ex_of (does_flat dm.2.2 A B C hq.1 hq.2.1 hq.2.2.1)
      dsimp only at wm hm cm wn hn cn
      have l1 : m.l.length = a.l.length := by rw [(ok_len dm.2.2).1, (ok_len g).1, wm, hm]
      have q (x y : Nat) (_ : x < n.w) (_ : y < n.h) : n.c (x : Int) (y : Int) = m.c (x : Int) (y : Int) := by rw [cn, flat_all (by rw [cm]; rfl)]
      have e := flat_l g A B C D hq.1 wm l1 cm a.l.length 0 (k - 1) (Nat.zero_add _) (by omega)
      rw [show ((0 : Nat) : Int) = 0 from rfl] at e
      simp only [laws_FnOpFlat.j0]
      rw [if_neg (by decide), eaDo_ok g (.one dm) (by simp) k (by simp; omega), Option.bind_some, rasOk_pic dm.2.2 k (by omega), Option.bind_some, if_pos rfl, eaDo_ok dm.2.2 (.one dn) (by simp) k (by simp; omega), Option.bind_some, eaRas_pic dn.2.2 (b := m) wn hn q k (by omega), Option.bind_some]
      obtain ⟨j, rfl⟩ : ∃ j, k = j + 1 := ⟨k - 1, by omega⟩
      simp only [laws_FnOpFlat.j1]
      rw [if_neg (by decide)]
      exact e
    · rw [decide_eq_false hq]
      exact hj
  · rw [if_neg (show ¬ decide (RasP W H r) = true from fun h => hr (of_decide_eq_true h))]
    exact hj
end Go.Proofs.Ythnmeogafklhnaa.Pure
