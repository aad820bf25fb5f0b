/- A part may be turned, or turned about, before or behind: the pure statement of the law FnOpCropFlip. No condition. -/
import Derived.Test.YthnmeogafklhnaaPlPicOps
import Derived.Test.YthnmeogafklhnaaPlDrawOp
import Derived.Test.YthnmeogafklhnaaPlMod
import Derived.Test.YthnmeogafklhnaaPlEaOk
import Derived.Test.YthnmeogafklhnaaX0
import Derived.Test.YthnmeogafklhnaaX53
namespace Go.Proofs.Ythnmeogafklhnaa.Pure
open Go Go.RowKit Go.Proofs.Ythnmeogafklhnaa.X Go.Proofs.Ythnmeogafklhnaa.Pl Go.Proofs.YthnmeogafklhnaaW.PrintWords Go.Proofs.YthnmeogafklhnaaW.PrintLast Go.Proofs.YthnmeogafklhnaaW.PrintMore
def Same (a b : Pic) : Prop := a.w = b.w ∧ a.h = b.h ∧ ∀ x y : Nat, x < a.w → y < a.h → a.c (x : Int) (y : Int) = b.c (x : Int) (y : Int)
theorem cut_mirror {a : Pic} (g : Ok a) (x0 y0 cw ch : Nat) (hw : 1 ≤ cw) (hh : 1 ≤ ch) (hx : x0 + cw ≤ a.w) (hy : y0 + ch ≤ a.h) :
    ∃ u v : Pic, Run a [⟨1, (x0 : Int), (y0 : Int), (cw : Int), (ch : Int)⟩, ⟨2, 0, 0, 0, 0⟩] u ∧ Run a [⟨2, 0, 0, 0, 0⟩, ⟨1, ((a.w - x0 - cw : Nat) : Int), (y0 : Int), (cw : Int), (ch : Int)⟩] v ∧ Ok u ∧ Same u v := by
  obtain ⟨p, dp, wp, hp, cp⟩ := ex_of (does_crop g x0 y0 cw ch hw hh hx hy)
  obtain ⟨u, du, wu, hu, cu⟩ := ex_of (does_mirror dp.2.2)
  obtain ⟨m, dm, wm, hm, cm⟩ := ex_of (does_mirror g)
  dsimp only at wp hp cp wu hu cu wm hm cm
  obtain ⟨v, dv, wv, hv, cv⟩ := ex_of (does_crop dm.2.2 (a.w - x0 - cw) y0 cw ch hw hh (by omega) (by omega))
  dsimp only at wv hv cv
  refine ⟨u, v, .cons dp (.one du), .cons dm (.one dv), du.2.2, by omega, by omega, fun x y h1 h2 => ?_⟩
  rw [cu, cp, cv, cm]
  exact c_eq a.c (by omega) (by omega)
theorem cut_over {a : Pic} (g : Ok a) (x0 y0 cw ch : Nat) (hw : 1 ≤ cw) (hh : 1 ≤ ch) (hx : x0 + cw ≤ a.w) (hy : y0 + ch ≤ a.h) :
    ∃ u v : Pic, Run a [⟨1, (x0 : Int), (y0 : Int), (cw : Int), (ch : Int)⟩, ⟨3, 0, 0, 0, 0⟩] u ∧ Run a [⟨3, 0, 0, 0, 0⟩, ⟨1, (x0 : Int), ((a.h - y0 - ch : Nat) : Int), (cw : Int), (ch : Int)⟩] v ∧ Ok u ∧ Same u v := by
  obtain ⟨p, dp, wp, hp, cp⟩ := ex_of (does_crop g x0 y0 cw ch hw hh hx hy)
  obtain ⟨u, du, wu, hu, cu⟩ := ex_of (does_over dp.2.2)
  obtain ⟨m, dm, wm, hm, cm⟩ := ex_of (does_over g)
  dsimp only at wp hp cp wu hu cu wm hm cm
  obtain ⟨v, dv, wv, hv, cv⟩ := ex_of (does_crop dm.2.2 x0 (a.h - y0 - ch) cw ch hw hh (by omega) (by omega))
  dsimp only at wv hv cv
  refine ⟨u, v, .cons dp (.one du), .cons dm (.one dv), du.2.2, by omega, by omega, fun x y h1 h2 => ?_⟩
  rw [cu, cp, cv, cm]
  exact c_eq a.c (by omega) (by omega)
theorem cut_turn {a : Pic} (g : Ok a) (x0 y0 cw ch : Nat) (hw : 1 ≤ cw) (hh : 1 ≤ ch) (hx : x0 + cw ≤ a.w) (hy : y0 + ch ≤ a.h) :
    ∃ u v : Pic, Run a [⟨1, (x0 : Int), (y0 : Int), (cw : Int), (ch : Int)⟩, ⟨4, 0, 0, 0, 0⟩] u ∧ Run a [⟨4, 0, 0, 0, 0⟩, ⟨1, ((a.h - y0 - ch : Nat) : Int), (x0 : Int), (ch : Int), (cw : Int)⟩] v ∧ Ok u ∧ Same u v := by
  obtain ⟨p, dp, wp, hp, cp⟩ := ex_of (does_crop g x0 y0 cw ch hw hh hx hy)
  obtain ⟨u, du, wu, hu, cu⟩ := ex_of (does_turn dp.2.2)
  obtain ⟨m, dm, wm, hm, cm⟩ := ex_of (does_turn g)
  dsimp only at wp hp cp wu hu cu wm hm cm
  obtain ⟨v, dv, wv, hv, cv⟩ := ex_of (does_crop dm.2.2 (a.h - y0 - ch) x0 ch cw hh hw (by omega) (by omega))
  dsimp only at wv hv cv
  refine ⟨u, v, .cons dp (.one du), .cons dm (.one dv), du.2.2, by omega, by omega, fun x y h1 h2 => ?_⟩
  rw [cu, cp, cv, cm]
  exact c_eq a.c (by omega) (by omega)
theorem w64_two {w x c : Nat} (h : x + c ≤ w) (hw : w ≤ 6) : wrap64 (((w - x : Nat) : Int) - (c : Int)) = ((w - x - c : Nat) : Int) := by
  rw [w64 (by omega) (by omega)]; omega
theorem fit {x0 cw W : Nat} (h1 : cw ≤ W - x0) (h2 : x0 < W) : x0 + cw ≤ W := by omega
theorem FnOpCropFlip : laws_FnOpCropFlip.Pure := by
  intro l n _ hl hb _ hn hbn
  obtain ⟨W, H, r, K, A, B, C, D, hd, hD⟩ := drawOpDo_ok l (bytes_wf hb)
  obtain ⟨k, hk⟩ : ∃ k : Nat, 1000 ≤ k := ⟨1000, by omega⟩
  have hr36 := hD.2.2.2.2
  have hj (b : Bool) : laws_FnOpCropFlip.j0 (k + 1) l n b = some true := by
    simp only [laws_FnOpCropFlip.j0]
    cases b with
    | true => rfl
    | false =>
      rw [if_neg (by decide), hd k (by omega), Option.bind_some, specRasOk_ok W H r (by omega) k (by omega), Option.bind_some]
      by_cases hr : RasP W H r
      · rw [if_pos (decide_eq_true hr)]
        obtain ⟨a, g, rfl, rfl, rfl⟩ := of_ras hr
        have gw := g.1
        have gh := g.2.1
        obtain ⟨x0, hx0, hx⟩ := rest_mod n.length a.w gw.1
        obtain ⟨y0, hy0, hy⟩ := rest_nat n.length (by omega) 7 a.h gh.1
        obtain ⟨cw, hcw, hcw1⟩ := rest_one n.length (by omega) 3 (a.w - x0) (by omega) (by omega)
        obtain ⟨ch, hch, hch1⟩ := rest_one n.length (by omega) 5 (a.h - y0) (by omega) (by omega)
        rw [show ((7 : Nat) : Int) = 7 from rfl] at hy0
        rw [show ((3 : Nat) : Int) = 3 from rfl] at hcw
        rw [show ((5 : Nat) : Int) = 5 from rfl] at hch
        rw [if_neg (show ¬ (a.w : Int) = 0 by omega), if_neg (show ¬ (a.h : Int) = 0 by omega), hx0, hy0, w64 (x := (a.w : Int) - (x0 : Int)) (by omega) (by omega), w64 (x := (a.h : Int) - (y0 : Int)) (by omega) (by omega), if_neg (by omega), if_neg (by omega),
          show (a.w : Int) - (x0 : Int) = ((a.w - x0 : Nat) : Int) by omega, show (a.h : Int) - (y0 : Int) = ((a.h - y0 : Nat) : Int) by omega, hcw, hch]
        clear hx0 hy0 hcw hch hd hD
        have fx := fit hcw1.2 hx
        have fy := fit hch1.2 hy
        obtain ⟨p, dp, _⟩ := ex_of (does_crop g x0 y0 cw ch hcw1.1 hch1.1 fx fy)
        obtain ⟨u1, v1, r1, s1, k1, q1⟩ := cut_mirror g x0 y0 cw ch hcw1.1 hch1.1 fx fy
        obtain ⟨u2, v2, r2, s2, k2, q2⟩ := cut_over g x0 y0 cw ch hcw1.1 hch1.1 fx fy
        obtain ⟨u3, v3, r3, s3, k3, q3⟩ := cut_turn g x0 y0 cw ch hcw1.1 hch1.1 fx fy
        have h1 : 41 + 2 ≤ k := Nat.le_trans (by decide) hk
        have h0 : 40 ≤ k := Nat.le_trans (by decide) hk
        rw [w64_two fx gw.2, w64_two fy gh.2]
        rw [eaDo_ok g (.one dp) (by simp) k (by simp; omega), Option.bind_some, rasOk_pic dp.2.2 k h0, Option.bind_some, if_pos rfl]
        rw [eaDo_ok g r1 (by simp) k (by simp; omega), Option.bind_some, eaDo_ok g s1 (by simp) k (by simp; omega), Option.bind_some, eaRas_pic k1 (b := v1) q1.1 q1.2.1 q1.2.2 k h0, Option.bind_some, if_pos rfl]
        rw [eaDo_ok g r2 (by simp) k (by simp; omega), Option.bind_some, eaDo_ok g s2 (by simp) k (by simp; omega), Option.bind_some, eaRas_pic k2 (b := v2) q2.1 q2.2.1 q2.2.2 k h0, Option.bind_some, if_pos rfl]
        rw [eaDo_ok g r3 (by simp) k (by simp; omega), Option.bind_some, eaDo_ok g s3 (by simp) k (by simp; omega), Option.bind_some, eaRas_pic k3 (b := v3) q3.1 q3.2.1 q3.2.2 k h0, Option.bind_some]
      · rw [if_neg (show ¬ decide (RasP W H r) = true from fun h => hr (of_decide_eq_true h)), implRasOk_ok W H r (by omega) k (by omega), Option.bind_some, if_neg (show ¬ decide (RasP W H r) = true from fun h => hr (of_decide_eq_true h)), eaOk_ok, Option.bind_some]
  refine ⟨k + 1, ?_⟩
  unfold laws_FnOpCropFlip.f
  split
  · exact hj _
  · exact hj _
end Go.Proofs.Ythnmeogafklhnaa.Pure
