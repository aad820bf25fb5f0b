/- What can be done leaves a picture of the size that must be: the pure statement of the law FnOpDo. No condition. -/
import Derived.Test.YthnmeogafklhnaaPlDoAll
import Derived.Test.YthnmeogafklhnaaX0
import Derived.Test.YthnmeogafklhnaaX46
namespace Go.Proofs.Ythnmeogafklhnaa.Pure
open Go Go.RowKit Go.Proofs.Ythnmeogafklhnaa.X Go.Proofs.Ythnmeogafklhnaa.Pl Go.Proofs.YthnmeogafklhnaaW.PrintWords Go.Proofs.YthnmeogafklhnaaW.PrintLast Go.Proofs.YthnmeogafklhnaaW.PrintMore
theorem do_pic {b : Pic} (gb : Ok b) (k : Nat) (hk : 100 ≤ k) (W H : Int) (r : List S38) (K A B C D : Int) (hw : ¬ K = 1)
    (hb : (b.w : Int) = (if K = 4 then H else if K = 7 then A else W)) (hh : (b.h : Int) = (if K = 4 then W else if K = 7 then B else H)) :
    laws_FnOpDo.j1 (k + 1) true false W H r K A B C D (b.w : Int) (b.h : Int) b.l = some true := by
  have hr := rasOk_pic gb k (by omega)
  simp only [laws_FnOpDo.j1]
  rw [if_neg (by decide), if_neg hw]
  by_cases h4 : K = 4
  · rw [if_pos h4] at hb hh
    rw [if_pos h4, if_pos trivial, hr, Option.bind_some, if_pos rfl, if_pos hb, hh]
    simp
  · rw [if_neg h4] at hb hh
    rw [if_neg h4]
    by_cases h7 : K = 7
    · rw [if_pos h7] at hb hh
      rw [if_pos h7, if_pos trivial, hr, Option.bind_some, if_pos rfl, if_pos hb, hh]
      simp
    · rw [if_neg h7] at hb hh
      rw [if_neg h7, if_pos trivial, hr, Option.bind_some, if_pos rfl, if_pos hb, hh]
      simp
theorem do_part {a : Pic} (g : Ok a) (k : Nat) (hk : 100 ≤ k) (A B C D : Int) (h : X.OpP 1 A B C D) :
    laws_FnOpDo.j1 (k + 1) (X.opGo a.w a.h a.l 1 A B C D).2.2.2 false (a.w : Int) (a.h : Int) a.l 1 A B C D (X.opGo a.w a.h a.l 1 A B C D).1 (X.opGo a.w a.h a.l 1 A B C D).2.1 (X.opGo a.w a.h a.l 1 A B C D).2.2.1 = some true := by
  have gw := g.1
  have gh := g.2.1
  have h' : 0 ≤ A ∧ A ≤ 5 ∧ 0 ≤ B ∧ B ≤ 5 ∧ 1 ≤ C ∧ C ≤ 6 ∧ 1 ≤ D ∧ D ≤ 6 := by unfold X.OpP at h; omega
  obtain ⟨a0, a1, b0, b1, c0, c1, d0, d1⟩ := h'
  obtain ⟨x0, rfl⟩ := Int.eq_ofNat_of_zero_le a0
  obtain ⟨y0, rfl⟩ := Int.eq_ofNat_of_zero_le b0
  obtain ⟨cw, rfl⟩ := Int.eq_ofNat_of_zero_le (show 0 ≤ C by omega)
  obtain ⟨ch, rfl⟩ := Int.eq_ofNat_of_zero_le (show 0 ≤ D by omega)
  have hno (h : (a.w : Int) < (x0 : Int) + (cw : Int) ∨ (a.h : Int) < (y0 : Int) + (ch : Int)) : X.opGo a.w a.h a.l 1 x0 y0 cw ch = (0, 0, [], false) := by
    unfold X.opGo
    rw [if_pos rfl, if_pos h]
  simp only [laws_FnOpDo.j1]
  rw [if_neg (by decide), if_pos trivial, w64 (x := (x0 : Int) + (cw : Int)) (by omega) (by omega), w64 (x := (y0 : Int) + (ch : Int)) (by omega) (by omega)]
  by_cases h1 : (x0 : Int) + (cw : Int) > (a.w : Int)
  · rw [if_pos h1, hno (Or.inl h1), if_neg (by decide)]
    simp
  · rw [if_neg h1]
    by_cases h2 : (y0 : Int) + (ch : Int) > (a.h : Int)
    · rw [if_pos h2, hno (Or.inr h2), if_neg (by decide)]
      simp
    · obtain ⟨b, d, wb, hb, cb⟩ := ex_of (does_crop g x0 y0 cw ch (by omega) (by omega) (by omega) (by omega))
      dsimp only at wb hb cb
      have e := d.2.1
      dsimp only at e
      rw [if_neg h2, e]
      dsimp only
      rw [if_pos rfl, rasOk_pic d.2.2 k (by omega), Option.bind_some, if_pos rfl, if_pos (by omega), hb]
      simp
theorem FnOpDo : laws_FnOpDo.Pure := by
  intro l _ hl hb
  obtain ⟨W, H, r, K, A, B, C, D, hd, hD⟩ := drawOpDo_ok l (bytes_wf hb)
  obtain ⟨k, hk⟩ : ∃ k : Nat, 1000 ≤ k := ⟨1000, by omega⟩
  refine ⟨k + 1 + 1, ?_⟩
  unfold laws_FnOpDo.f
  by_cases h : (l.length : Int) > 1048576
  · rw [if_pos h]
  have hr36 := hD.2.2.2.2
  have hx36 := doS_len W H r K A B C D
  rw [if_neg h, hd (k + 1 + 1) (by omega), Option.bind_some, implOpDo_ok W H r K A B C D (by omega) (k + 1 + 1) (by omega), Option.bind_some, specOpDo_ok W H r K A B C D (by omega) (k + 1 + 1) (by omega), Option.bind_some,
    eaRas_self _ _ _ (by omega) (k + 1 + 1) (by omega), Option.bind_some, if_pos rfl, if_neg (by simp), implOpOk_ok _ _ _ _ _ (k + 1 + 1) (by omega), Option.bind_some, specOpOk_ok, Option.bind_some]
  have hb : (decide (OpQ K A B C D) != decide (OpQ K A B C D)) = false := by simp
  rw [hb]
  simp only [laws_FnOpDo.j0]
  rw [if_neg (by decide), specRasOk_ok W H r (by omega) (k + 1) (by omega), Option.bind_some]
  have hbad (hn : ¬ (RasP W H r ∧ OpQ K A B C D)) : laws_FnOpDo.j1 (k + 1) (doS W H r K A B C D).2.2.2 true W H r K A B C D (doS W H r K A B C D).1 (doS W H r K A B C D).2.1 (doS W H r K A B C D).2.2.1 = some true := by
    unfold doS
    rw [if_neg hn]
    simp only [laws_FnOpDo.j1]
    rw [if_pos trivial, if_neg (by decide), if_pos (by simp), eaOk_ok, Option.bind_some]
  by_cases hr : RasP W H r
  · rw [if_pos (decide_eq_true hr), specOpOk_ok, Option.bind_some]
    by_cases ho : OpQ K A B C D
    · rw [decide_eq_true ho]
      unfold doS
      rw [if_pos ⟨hr, ho⟩]
      obtain ⟨a, g, rfl, rfl, rfl⟩ := of_ras hr
      rw [Int.toNat_natCast, Int.toNat_natCast]
      have hp := (opQ_iff _ _ _ _ _).1 ho
      by_cases h1 : K = 1
      · subst h1
        exact do_part g k (by omega) A B C D hp
      · obtain ⟨b, e, gb, e1, e2⟩ := opGo_pic g hp h1
        rw [e]
        exact do_pic gb k (by omega) _ _ _ _ _ _ _ _ h1 e1 e2
    · rw [decide_eq_false ho]
      exact hbad fun h => ho h.2
  · rw [if_neg (show ¬ decide (RasP W H r) = true from fun h => hr (of_decide_eq_true h))]
    exact hbad fun h => hr h.1
end Go.Proofs.Ythnmeogafklhnaa.Pure
