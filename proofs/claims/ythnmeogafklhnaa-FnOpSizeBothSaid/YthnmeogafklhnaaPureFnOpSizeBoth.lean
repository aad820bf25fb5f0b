/- Width and height are changed at once as one after the other: the pure statement of the law FnOpSizeBoth. No condition. -/
import Derived.Test.YthnmeogafklhnaaPlPicOps
import Derived.Test.YthnmeogafklhnaaPlDrawOp
import Derived.Test.YthnmeogafklhnaaPlMod
import Derived.Test.YthnmeogafklhnaaPlEaOk
import Derived.Test.YthnmeogafklhnaaX0
import Derived.Test.YthnmeogafklhnaaX56
namespace Go.Proofs.Ythnmeogafklhnaa.Pure
open Go Go.RowKit Go.Proofs.Ythnmeogafklhnaa.X Go.Proofs.Ythnmeogafklhnaa.Pl Go.Proofs.YthnmeogafklhnaaW.PrintWords Go.Proofs.YthnmeogafklhnaaW.PrintLast Go.Proofs.YthnmeogafklhnaaW.PrintMore
theorem FnOpSizeBoth : laws_FnOpSizeBoth.Pure := by
  intro l n _ hl hb _ hn hbn
  obtain ⟨W, H, r, K, A, B, C, D, hd, hD⟩ := drawOpDo_ok l (bytes_wf hb)
  obtain ⟨k, hk⟩ : ∃ k : Nat, 1000 ≤ k := ⟨1000, by omega⟩
  have hr36 := hD.2.2.2.2
  obtain ⟨p, hp, hp6⟩ : ∃ p : Nat, 1 + (n.length : Int) % 6 = (p : Int) ∧ 1 ≤ p ∧ p ≤ 6 := ⟨1 + n.length % 6, by omega, by omega, by omega⟩
  obtain ⟨q, hq, hq6⟩ := rest_one n.length (by omega) 7 6 (by omega) (by omega)
  rw [show ((7 : Nat) : Int) = 7 from rfl, show ((6 : Nat) : Int) = 6 from rfl] at hq
  have hj (b : Bool) : laws_FnOpSizeBoth.j0 (k + 1) l n b = some true := by
    simp only [laws_FnOpSizeBoth.j0]
    cases b with
    | true => rfl
    | false =>
      rw [if_neg (by decide), hd k (by omega), Option.bind_some, specRasOk_ok W H r (by omega) k (by omega), Option.bind_some]
      by_cases hr : RasP W H r
      · rw [if_pos (decide_eq_true hr), hp, hq]
        obtain ⟨a, g, rfl, rfl, rfl⟩ := of_ras hr
        have gw := g.1
        have gh := g.2.1
        obtain ⟨b1, s1, w1, h1, c1⟩ := ex_of (does_size g p q hp6.1 hp6.2 hq6.1 hq6.2)
        obtain ⟨b2, s2, w2, h2, c2⟩ := ex_of (does_size g p a.h hp6.1 hp6.2 gh.1 gh.2)
        obtain ⟨b3, s3, w3, h3, c3⟩ := ex_of (does_size s2.2.2 p q hp6.1 hp6.2 hq6.1 hq6.2)
        obtain ⟨b4, s4, w4, h4, c4⟩ := ex_of (does_size g a.w q gw.1 gw.2 hq6.1 hq6.2)
        obtain ⟨b5, s5, w5, h5, c5⟩ := ex_of (does_size s4.2.2 p q hp6.1 hp6.2 hq6.1 hq6.2)
        dsimp only at w1 h1 c1 w2 h2 c2 w3 h3 c3 w4 h4 c4 w5 h5 c5
        rw [w2, h2] at c3
        rw [w4, h4] at c5
        have e3 (x y : Nat) (hx : x < b3.w) (hy : y < b3.h) : b3.c (x : Int) (y : Int) = b1.c (x : Int) (y : Int) := by
          rw [w3] at hx; rw [h3] at hy
          rw [c3, c1, sz_cast x p p, sz_self hx, sz_cast y q a.h, c2, sz_cast (szN y q a.h) a.h a.h, sz_self (sz_lt hy (by omega)), sz_cast x p a.w]
        have e5 (x y : Nat) (hx : x < b5.w) (hy : y < b5.h) : b5.c (x : Int) (y : Int) = b1.c (x : Int) (y : Int) := by
          rw [w5] at hx; rw [h5] at hy
          rw [c5, c1, sz_cast y q q, sz_self hy, sz_cast x p a.w, c4, sz_cast (szN x p a.w) a.w a.w, sz_self (sz_lt hx (by omega)), sz_cast y q a.h]
        rw [eaDo_ok g (.one s1) (by simp) k (by simp; omega), Option.bind_some, eaDo_ok g (.cons s2 (.one s3)) (by simp) k (by simp; omega), Option.bind_some, eaDo_ok g (.cons s4 (.one s5)) (by simp) k (by simp; omega), Option.bind_some,
          rasOk_pic s1.2.2 k (by omega), Option.bind_some, if_pos rfl,
          eaRas_pic s3.2.2 (b := b1) (by omega) (by omega) e3 k (by omega), Option.bind_some, if_pos rfl,
          eaRas_pic s5.2.2 (b := b1) (by omega) (by omega) e5 k (by omega), Option.bind_some]
      · rw [if_neg (show ¬ decide (RasP W H r) = true from fun h => hr (of_decide_eq_true h)), implRasOk_ok W H r (by omega) k (by omega), Option.bind_some, if_neg (show ¬ decide (RasP W H r) = true from fun h => hr (of_decide_eq_true h)), eaOk_ok, Option.bind_some]
  refine ⟨k + 1, ?_⟩
  unfold laws_FnOpSizeBoth.f
  split
  · exact hj _
  · exact hj _
end Go.Proofs.Ythnmeogafklhnaa.Pure
