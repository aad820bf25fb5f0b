/- Twice the size holds each place four times, and back again is the picture: the pure statement of the law FnOpSizeUp. No condition. -/
import Derived.Test.YthnmeogafklhnaaPlPicOps
import Derived.Test.YthnmeogafklhnaaPlDrawOp
import Derived.Test.YthnmeogafklhnaaPlEaOk
import Derived.Test.YthnmeogafklhnaaX0
import Derived.Test.YthnmeogafklhnaaX60
namespace Go.Proofs.Ythnmeogafklhnaa.Pure
open Go Go.RowKit Go.Proofs.Ythnmeogafklhnaa.X Go.Proofs.Ythnmeogafklhnaa.Pl Go.Proofs.YthnmeogafklhnaaW.PrintWords Go.Proofs.YthnmeogafklhnaaW.PrintLast Go.Proofs.YthnmeogafklhnaaW.PrintMore
theorem sz_half {w : Nat} (hw : 0 < w) (x : Nat) : szN x (2 * w) w = x / 2 := by
  unfold szN
  rw [show 2 * (2 * w) = 4 * w by omega, Nat.mul_div_mul_right _ _ hw]; omega
theorem sz_twice {w : Nat} (hw : 0 < w) (x : Nat) : szN x w (2 * w) = 2 * x + 1 := by
  unfold szN
  exact Nat.mul_div_cancel _ (by omega)
theorem rd_pic {a : Pic} {i : Nat} (h : i < a.l.length) : rd_T38 a.l (i : Int) = a.c ((i % a.w : Nat) : Int) ((i / a.w : Nat) : Int) := by
  rw [rdP h]; exact grid_get _ _ _ _ h
theorem up_l {a b b2 : Pic} (g : Ok a) (gb : Ok b) (hw : b.w = 2 * a.w) (hh : b.h = 2 * a.h) (hc : ∀ x y : Nat, b.c (x : Int) (y : Int) = a.c ((x / 2 : Nat) : Int) ((y / 2 : Nat) : Int))
    (h2 : Run b [⟨7, (a.w : Int), (a.h : Int), 0, 0⟩] b2) (w2 : b2.w = a.w) (hh2 : b2.h = a.h) (c2 : ∀ x y : Nat, b2.c (x : Int) (y : Int) = a.c (x : Int) (y : Int)) : ∀ (d i k : Nat), i + d = b.l.length → d + 100 < k →
    laws_FnOpSizeUp.l0 k (i : Int) (a.w : Int) (a.h : Int) a.l (b.w : Int) (b.h : Int) b.l = some true := by
  have hl := ok_len gb
  intro d
  induction d with
  | zero =>
    intro i k hi hk
    obtain ⟨k, rfl⟩ : ∃ m, k = m + 1 := ⟨k - 1, by omega⟩
    simp only [laws_FnOpSizeUp.l0]
    rw [if_neg (by omega), eaDo_ok gb h2 (by simp) k (by simp; omega), Option.bind_some, eaRas_pic (h2.ok gb) (b := a) w2 hh2 (fun x y _ _ => c2 x y) k (by omega), Option.bind_some]
  | succ d ih =>
    intro i k hi hk
    obtain ⟨k, rfl⟩ : ∃ m, k = m + 1 := ⟨k - 1, by omega⟩
    have hil : i < b.l.length := by omega
    have gw := g.1
    have hx : i % b.w < b.w := Nat.mod_lt _ (by omega)
    have hy : i / b.w < b.h := Nat.div_lt_of_lt_mul (by rw [← hl.1]; exact hil)
    have hdi := Nat.div_le_self i b.w
    have e1 : wrap64 (Int.tdiv (Int.tmod (i : Int) (b.w : Int)) 2) = ((i % b.w / 2 : Nat) : Int) := by
      rw [Int.tmod_eq_emod_of_nonneg (by omega), ← Int.natCast_emod, Int.tdiv_eq_ediv_of_nonneg (by omega)]
      generalize i % b.w = u at *
      rw [w64 (by omega) (by omega)]; omega
    have e2 : wrap64 (Int.tdiv (wrap64 (Int.tdiv (i : Int) (b.w : Int))) 2) = ((i / b.w / 2 : Nat) : Int) := by
      rw [show Int.tdiv (i : Int) (b.w : Int) = ((i / b.w : Nat) : Int) by rw [Int.tdiv_eq_ediv_of_nonneg (by omega), ← Int.natCast_ediv]]
      generalize i / b.w = u at *
      rw [w64 (x := (u : Int)) (by omega) (by omega), Int.tdiv_eq_ediv_of_nonneg (by omega), w64 (by omega) (by omega)]; omega
    simp only [laws_FnOpSizeUp.l0]
    rw [if_pos (by omega), if_pos (by omega), if_neg (by omega), e1, e2, at_pic g _ _ (by omega) (by omega) k (by omega), Option.bind_some, rd_pic hil, hc, if_neg (by simp), w64 (by omega) (by omega)]
    exact ih (i + 1) k (by omega) (by omega)
theorem FnOpSizeUp : laws_FnOpSizeUp.Pure := by
  intro l _ hl hb
  obtain ⟨W, H, r, K, A, B, C, D, hd, hD⟩ := drawOpDo_ok l (bytes_wf hb)
  obtain ⟨k, hk⟩ : ∃ k : Nat, 1000 ≤ k := ⟨1000, by omega⟩
  have hr36 := hD.2.2.2.2
  have hj : laws_FnOpSizeUp.j0 (k + 1) true W H r = some true := by
    simp only [laws_FnOpSizeUp.j0]
    rw [if_pos trivial, implRasOk_ok W H r (by omega) k (by omega), Option.bind_some, specRasOk_ok W H r (by omega) k (by omega), Option.bind_some, if_pos (by simp), eaOk_ok, Option.bind_some]
  refine ⟨k + 1, ?_⟩
  unfold laws_FnOpSizeUp.f
  by_cases h : (l.length : Int) > 1048576
  · rw [if_pos h]
  rw [if_neg h, hd (k + 1) (by omega), Option.bind_some, specRasOk_ok W H r (by omega) (k + 1) (by omega), Option.bind_some]
  by_cases hr : RasP W H r
  · rw [if_pos (decide_eq_true hr)]
    obtain ⟨a, g, rfl, rfl, rfl⟩ := of_ras hr
    have gw := g.1
    have gh := g.2.1
    rw [w64 (x := 2 * (a.w : Int)) (by omega) (by omega), w64 (x := 2 * (a.h : Int)) (by omega) (by omega)]
    by_cases h1 : 2 * (a.w : Int) > 6
    · rw [if_pos h1]; exact hj
    rw [if_neg h1]
    by_cases h2 : 2 * (a.h : Int) > 6
    · rw [decide_eq_true h2]; exact hj
    rw [decide_eq_false h2]
    obtain ⟨b, s, wb, hb', cb⟩ := ex_of (does_size g (2 * a.w) (2 * a.h) (by omega) (by omega) (by omega) (by omega))
    obtain ⟨b2, s2, w2, hh2, c2⟩ := ex_of (does_size s.2.2 a.w a.h gw.1 gw.2 gh.1 gh.2)
    dsimp only at wb hb' cb w2 hh2 c2
    have hc (x y : Nat) : b.c (x : Int) (y : Int) = a.c ((x / 2 : Nat) : Int) ((y / 2 : Nat) : Int) := by
      rw [cb, sz_cast x (2 * a.w) a.w, sz_cast y (2 * a.h) a.h, sz_half (by omega), sz_half (by omega)]
    have hc2 (x y : Nat) : b2.c (x : Int) (y : Int) = a.c (x : Int) (y : Int) := by
      rw [c2, wb, hb', sz_cast x a.w (2 * a.w), sz_cast y a.h (2 * a.h), sz_twice (by omega), sz_twice (by omega), hc]
      exact c_eq a.c (by omega) (by omega)
    simp only [laws_FnOpSizeUp.j0]
    rw [if_neg (by decide), w64 (x := 2 * (a.w : Int)) (by omega) (by omega), w64 (x := 2 * (a.h : Int)) (by omega) (by omega), show (2 * (a.w : Int)) = ((2 * a.w : Nat) : Int) by omega, show (2 * (a.h : Int)) = ((2 * a.h : Nat) : Int) by omega, eaDo_ok g (.one s) (by simp) k (by simp; omega), Option.bind_some]
    exact up_l g s.2.2 wb hb' hc (.one s2) w2 hh2 hc2 b.l.length 0 k (by omega) (by have := ok_len s.2.2; omega)
  · rw [if_neg (show ¬ decide (RasP W H r) = true from fun h => hr (of_decide_eq_true h))]
    exact hj
end Go.Proofs.Ythnmeogafklhnaa.Pure
