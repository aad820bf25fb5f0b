/- A new size laid twice is that laid once, and one place alone is the middle: the pure statement of the law FnOpSizeTwice. No condition. -/
import Derived.Test.YthnmeogafklhnaaPlPicOps
import Derived.Test.YthnmeogafklhnaaPlDrawOp
import Derived.Test.YthnmeogafklhnaaPlMod
import Derived.Test.YthnmeogafklhnaaPlEaOk
import Derived.Test.YthnmeogafklhnaaX0
import Derived.Test.YthnmeogafklhnaaX59
namespace Go.Proofs.Ythnmeogafklhnaa.Pure
open Go Go.RowKit Go.Proofs.Ythnmeogafklhnaa.X Go.Proofs.Ythnmeogafklhnaa.Pl Go.Proofs.YthnmeogafklhnaaW.PrintWords Go.Proofs.YthnmeogafklhnaaW.PrintLast Go.Proofs.YthnmeogafklhnaaW.PrintMore
theorem FnOpSizeTwice : laws_FnOpSizeTwice.Pure := by
  intro l n _ hl hb _ hn hbn
  obtain ⟨W, H, r, K, A, B, C, D, hd, hD⟩ := drawOpDo_ok l (bytes_wf hb)
  obtain ⟨k, hk⟩ : ∃ k : Nat, 1000 ≤ k := ⟨1000, by omega⟩
  have hr36 := hD.2.2.2.2
  obtain ⟨p, hp, hp6⟩ : ∃ p : Nat, 1 + (n.length : Int) % 6 = (p : Int) ∧ 1 ≤ p ∧ p ≤ 6 := ⟨1 + n.length % 6, by omega, by omega, by omega⟩
  obtain ⟨q, hq, hq6⟩ := rest_one n.length (by omega) 7 6 (by omega) (by omega)
  rw [show ((7 : Nat) : Int) = 7 from rfl, show ((6 : Nat) : Int) = 6 from rfl] at hq
  have hj (b : Bool) : laws_FnOpSizeTwice.j0 (k + 1) l n b = some true := by
    simp only [laws_FnOpSizeTwice.j0]
    cases b with
    | true => rfl
    | false =>
      rw [if_neg (by decide), hd k (by omega), Option.bind_some, specRasOk_ok W H r (by omega) k (by omega), Option.bind_some]
      by_cases hr : RasP W H r
      · rw [if_pos (decide_eq_true hr), hp, hq]
        obtain ⟨a, g, rfl, rfl, rfl⟩ := of_ras hr
        have gw := g.1
        have gh := g.2.1
        obtain ⟨b1, s1, w1, h1, c1⟩ := ex_of (does_size g p q hp6.1 hp6.2 hq6.1 hq6.2)
        obtain ⟨b2, s2, w2, h2, c2⟩ := ex_of (does_size g 1 1 (by omega) (by omega) (by omega) (by omega))
        obtain ⟨b3, s3, w3, h3, c3⟩ := ex_of (does_size s1.2.2 p q hp6.1 hp6.2 hq6.1 hq6.2)
        dsimp only at w1 h1 c1 w2 h2 c2 w3 h3 c3
        rw [w1, h1] at c3
        have e3 (x y : Nat) (hx : x < b3.w) (hy : y < b3.h) : b3.c (x : Int) (y : Int) = b1.c (x : Int) (y : Int) := by
          rw [w3] at hx; rw [h3] at hy
          rw [c3, sz_cast x p p, sz_self hx, sz_cast y q q, sz_self hy]
        have hl1 : (b2.l.length : Int) = 1 := by rw [(ok_len s2.2.2).1, w2, h2]; rfl
        have e0 : rd_T38 b2.l 0 = a.c ((a.w / 2 : Nat) : Int) ((a.h / 2 : Nat) : Int) := by
          have e := rd_grid b2.w b2.h b2.c 0 0 (by omega) (by omega)
          rw [show ((0 : Nat) : Int) * (b2.w : Int) + ((0 : Nat) : Int) = 0 by omega] at e
          refine e.trans ((c2 _ _).trans (c_eq a.c ?_ ?_))
          · show (2 * ((0 : Nat) : Int) + 1) * (a.w : Int) / (2 * ((1 : Nat) : Int)) = _
            omega
          · show (2 * ((0 : Nat) : Int) + 1) * (a.h : Int) / (2 * ((1 : Nat) : Int)) = _
            omega
        have ew : wrap64 (Int.tdiv (a.w : Int) 2) = ((a.w / 2 : Nat) : Int) := by rw [Int.tdiv_eq_ediv_of_nonneg (by omega), w64 (by omega) (by omega)]; omega
        have eh : wrap64 (Int.tdiv (a.h : Int) 2) = ((a.h / 2 : Nat) : Int) := by rw [Int.tdiv_eq_ediv_of_nonneg (by omega), w64 (by omega) (by omega)]; omega
        rw [eaDo_ok g (.one s1) (by simp) k (by simp; omega), Option.bind_some, show ([⟨7, 1, 1, 0, 0⟩] : List S27) = [⟨7, ((1 : Nat) : Int), ((1 : Nat) : Int), 0, 0⟩] from rfl, eaDo_ok g (.one s2) (by simp) k (by simp; omega), Option.bind_some, eaDo_ok s1.2.2 (.one s3) (by simp) k (by simp; omega), Option.bind_some,
          eaRas_pic s3.2.2 (b := b1) (by omega) (by omega) e3 k (by omega), Option.bind_some, if_pos rfl,
          rasOk_pic s1.2.2 k (by omega), Option.bind_some, if_pos rfl, if_pos hl1, if_pos (show 0 < (b2.l.length : Int) by rw [hl1]; decide), ew, eh, at_pic g (a.w / 2) (a.h / 2) (by omega) (by omega) k (by omega), Option.bind_some, e0]
        simp
      · rw [if_neg (show ¬ decide (RasP W H r) = true from fun h => hr (of_decide_eq_true h)), implRasOk_ok W H r (by omega) k (by omega), Option.bind_some, if_neg (show ¬ decide (RasP W H r) = true from fun h => hr (of_decide_eq_true h)), eaOk_ok, Option.bind_some]
  refine ⟨k + 1, ?_⟩
  unfold laws_FnOpSizeTwice.f
  split
  · exact hj _
  · exact hj _
end Go.Proofs.Ythnmeogafklhnaa.Pure
