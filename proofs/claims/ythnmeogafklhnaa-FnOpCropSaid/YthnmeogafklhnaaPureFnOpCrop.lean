/- A cut holds the picture's own places, a cut of a cut is a cut, and the whole cut is the picture: the pure statement of the law FnOpCrop. No condition. -/
import Derived.Test.YthnmeogafklhnaaPlPicOps
import Derived.Test.YthnmeogafklhnaaPlDrawOp
import Derived.Test.YthnmeogafklhnaaPlMod
import Derived.Test.YthnmeogafklhnaaPlEaOk
import Derived.Test.YthnmeogafklhnaaX0
import Derived.Test.YthnmeogafklhnaaX57
namespace Go.Proofs.Ythnmeogafklhnaa.Pure
open Go Go.RowKit Go.Proofs.Ythnmeogafklhnaa.X Go.Proofs.Ythnmeogafklhnaa.Pl Go.Proofs.YthnmeogafklhnaaW.PrintWords Go.Proofs.YthnmeogafklhnaaW.PrintLast Go.Proofs.YthnmeogafklhnaaW.PrintMore
theorem fit {x0 w cw W : Nat} (h : w = cw) (h1 : cw ≤ W - x0) (h2 : x0 < W) : x0 + w ≤ W := by omega
theorem crop_row {a b : Pic} (g : Ok a) (gb : Ok b) (n : Int) (x0 y0 y : Nat) (hx : x0 + b.w ≤ a.w) (hy : y0 + b.h ≤ a.h) (hyb : y < b.h) (hc : ∀ x y : Int, b.c x y = a.c ((x0 : Int) + x) ((y0 : Int) + y)) : ∀ (d i k : Nat), i + d = b.w → 60 ≤ k →
    laws_FnOpCrop.l1 (k + d + 1) n (x0 : Int) (y0 : Int) (b.w : Int) (b.h : Int) (y : Int) (i : Int) (a.w : Int) (a.h : Int) a.l (b.w : Int) (b.h : Int) b.l = laws_FnOpCrop.l0 k n (x0 : Int) (y0 : Int) (b.w : Int) (b.h : Int) (wrap64 ((y : Int) + 1)) (a.w : Int) (a.h : Int) a.l (b.w : Int) (b.h : Int) b.l := by
  have ga := g.1
  have ga2 := g.2.1
  intro d
  induction d with
  | zero =>
    intro i k hi hk
    simp only [laws_FnOpCrop.l1]
    rw [if_neg (by omega)]
  | succ d ih =>
    intro i k hi hk
    generalize hm : k + (d + 1) = m
    simp only [laws_FnOpCrop.l1]
    rw [if_pos (by omega), at_pic gb i y (by omega) hyb m (by omega), Option.bind_some, w64 (x := (x0 : Int) + (i : Int)) (by omega) (by omega), w64 (x := (y0 : Int) + (y : Int)) (by omega) (by omega), ← Int.natCast_add, ← Int.natCast_add, at_pic g (x0 + i) (y0 + y) (by omega) (by omega) m (by omega), Option.bind_some, hc, ← Int.natCast_add, ← Int.natCast_add, if_neg (by simp), w64 (by omega) (by omega), ← hm]
    exact ih (i + 1) k (by omega) hk
theorem crop_all {a b b1 b2 b3 : Pic} (g : Ok a) (gb : Ok b) (n : Int) (x0 y0 u v : Nat) (hx : x0 + b.w ≤ a.w) (hy : y0 + b.h ≤ a.h) (hc : ∀ x y : Int, b.c x y = a.c ((x0 : Int) + x) ((y0 : Int) + y))
    (hu : Int.tmod (wrap64 (Int.tdiv n 11)) (b.w : Int) = (u : Int)) (hv : Int.tmod (wrap64 (Int.tdiv n 13)) (b.h : Int) = (v : Int)) (hub : u < b.w) (hvb : v < b.h)
    (s1 : Run b [⟨1, (u : Int), (v : Int), ((b.w - u : Nat) : Int), ((b.h - v : Nat) : Int)⟩] b1) (s2 : Run a [⟨1, ((x0 + u : Nat) : Int), ((y0 + v : Nat) : Int), ((b.w - u : Nat) : Int), ((b.h - v : Nat) : Int)⟩] b2) (s3 : Run a [⟨1, 0, 0, (a.w : Int), (a.h : Int)⟩] b3)
    (q1 : b1.w = b2.w ∧ b1.h = b2.h ∧ ∀ x y : Nat, b1.c (x : Int) (y : Int) = b2.c (x : Int) (y : Int)) (q3 : b3.w = a.w ∧ b3.h = a.h ∧ ∀ x y : Nat, b3.c (x : Int) (y : Int) = a.c (x : Int) (y : Int)) : ∀ (d y k : Nat), y + d = b.h → 200 + d * (b.w + 2) ≤ k →
    laws_FnOpCrop.l0 k n (x0 : Int) (y0 : Int) (b.w : Int) (b.h : Int) (y : Int) (a.w : Int) (a.h : Int) a.l (b.w : Int) (b.h : Int) b.l = some true := by
  have ga := g.1
  have ga2 := g.2.1
  have gw := gb.1
  have gh := gb.2.1
  intro d
  induction d with
  | zero =>
    intro y k hi hk
    obtain ⟨k, rfl⟩ : ∃ m, k = m + 1 := ⟨k - 1, by omega⟩
    simp only [laws_FnOpCrop.l0]
    rw [if_neg (by omega), if_neg (by omega), if_neg (by omega), hu, hv, w64 (x := (b.w : Int) - (u : Int)) (by omega) (by omega), w64 (x := (b.h : Int) - (v : Int)) (by omega) (by omega), w64 (x := (x0 : Int) + (u : Int)) (by omega) (by omega), w64 (x := (y0 : Int) + (v : Int)) (by omega) (by omega),
      show (b.w : Int) - (u : Int) = ((b.w - u : Nat) : Int) by omega, show (b.h : Int) - (v : Int) = ((b.h - v : Nat) : Int) by omega, ← Int.natCast_add, ← Int.natCast_add,
      eaDo_ok gb s1 (by simp) k (by simp; omega), Option.bind_some, eaDo_ok g s2 (by simp) k (by simp; omega), Option.bind_some, rasOk_pic gb k (by omega), Option.bind_some, if_pos rfl,
      eaRas_pic (s1.ok gb) (b := b2) q1.1 q1.2.1 (fun x y _ _ => q1.2.2 x y) k (by omega), Option.bind_some, if_pos rfl, eaDo_ok g s3 (by simp) k (by simp; omega), Option.bind_some, eaRas_pic (s3.ok g) (b := a) q3.1 q3.2.1 (fun x y _ _ => q3.2.2 x y) k (by omega), Option.bind_some]
  | succ d ih =>
    intro y k hi hk
    rw [Nat.succ_mul] at hk
    generalize hz : d * (b.w + 2) = z at *
    obtain ⟨k, rfl⟩ : ∃ m, k = m + b.w + 1 + 1 := ⟨k - b.w - 2, by omega⟩
    simp only [laws_FnOpCrop.l0]
    rw [if_pos (by omega)]
    have e := crop_row g gb n x0 y0 y hx hy (by omega) hc b.w 0 k (by omega) (by omega)
    rw [show ((0 : Nat) : Int) = 0 from rfl] at e
    rw [e, w64 (by omega) (by omega)]
    exact ih (y + 1) k (by omega) (by omega)
set_option maxHeartbeats 1000000 in
theorem FnOpCrop : laws_FnOpCrop.Pure := by
  intro l n _ hl hb _ hn hbn
  obtain ⟨W, H, r, K, A, B, C, D, hd, hD⟩ := drawOpDo_ok l (bytes_wf hb)
  obtain ⟨k, hk⟩ : ∃ k : Nat, 1000 ≤ k := ⟨1000, by omega⟩
  have hr36 := hD.2.2.2.2
  have hj (b : Bool) : laws_FnOpCrop.j0 (k + 1) l n b = some true := by
    simp only [laws_FnOpCrop.j0]
    cases b with
    | true => rfl
    | false =>
      rw [if_neg (by decide), hd k (by omega), Option.bind_some, specRasOk_ok W H r (by omega) k (by omega), Option.bind_some]
      by_cases hr : RasP W H r
      · rw [if_pos (decide_eq_true hr)]
        obtain ⟨a, g, rfl, rfl, rfl⟩ := of_ras hr
        have gw := g.1
        have gh := g.2.1
        obtain ⟨x0, hx0, hx⟩ := rest_mod n.length a.w gw.1
        obtain ⟨y0, hy0, hy⟩ := rest_nat n.length (by omega) 7 a.h gh.1
        obtain ⟨cw, hcw, hcw1⟩ := rest_one n.length (by omega) 3 (a.w - x0) (by omega) (by omega)
        obtain ⟨ch, hch, hch1⟩ := rest_one n.length (by omega) 5 (a.h - y0) (by omega) (by omega)
        obtain ⟨u, hu, hub⟩ := rest_nat n.length (by omega) 11 cw hcw1.1
        obtain ⟨v, hv, hvb⟩ := rest_nat n.length (by omega) 13 ch hch1.1
        rw [show ((7 : Nat) : Int) = 7 from rfl] at hy0
        rw [show ((3 : Nat) : Int) = 3 from rfl] at hcw
        rw [show ((5 : Nat) : Int) = 5 from rfl] at hch
        rw [← Int.tdiv_eq_ediv_of_nonneg (by omega), show ((11 : Nat) : Int) = 11 from rfl] at hu
        rw [← Int.tdiv_eq_ediv_of_nonneg (by omega), show ((13 : Nat) : Int) = 13 from rfl] at hv
        rw [if_neg (show ¬ (a.w : Int) = 0 by omega), if_neg (show ¬ (a.h : Int) = 0 by omega), hx0, hy0, w64 (x := (a.w : Int) - (x0 : Int)) (by omega) (by omega), w64 (x := (a.h : Int) - (y0 : Int)) (by omega) (by omega), if_neg (by omega), if_neg (by omega),
          show (a.w : Int) - (x0 : Int) = ((a.w - x0 : Nat) : Int) by omega, show (a.h : Int) - (y0 : Int) = ((a.h - y0 : Nat) : Int) by omega, hcw, hch]
        obtain ⟨b, s, wb, hb', cb⟩ := ex_of (does_crop g x0 y0 cw ch hcw1.1 hch1.1 (by omega) (by omega))
        obtain ⟨b1, s1, w1, h1, c1⟩ := ex_of (does_crop s.2.2 u v (b.w - u) (b.h - v) (by dsimp only at wb; omega) (by dsimp only at hb'; omega) (by dsimp only at wb; omega) (by dsimp only at hb'; omega))
        obtain ⟨b2, s2, w2, h2, c2⟩ := ex_of (does_crop g (x0 + u) (y0 + v) (b.w - u) (b.h - v) (by dsimp only at wb; omega) (by dsimp only at hb'; omega) (by dsimp only at wb; omega) (by dsimp only at hb'; omega))
        obtain ⟨b3, s3, w3, h3, c3⟩ := ex_of (does_crop g 0 0 a.w a.h gw.1 gh.1 (by omega) (by omega))
        dsimp only at wb hb' cb w1 h1 c1 w2 h2 c2 w3 h3 c3
        rw [eaDo_ok g (.one s) (by simp) k (by simp; omega), Option.bind_some]
        rw [← wb] at hu hub ⊢
        rw [← hb'] at hv hvb ⊢
        have hh6 := s.2.2.2.1.2
        have hw8 : b.w + 2 ≤ 8 := Nat.add_le_add_right s.2.2.1.2 2
        have hmul : b.h * (b.w + 2) ≤ 6 * 8 := Nat.mul_le_mul hh6 hw8
        have q1 (x y : Nat) : b1.c (x : Int) (y : Int) = b2.c (x : Int) (y : Int) := by rw [c1, c2, cb]; exact c_eq a.c (by omega) (by omega)
        have q3 (x y : Nat) : b3.c (x : Int) (y : Int) = a.c (x : Int) (y : Int) := by rw [c3]; exact c_eq a.c (by omega) (by omega)
        have r1 : Run b [⟨1, (u : Int), (v : Int), ((b.w - u : Nat) : Int), ((b.h - v : Nat) : Int)⟩] b1 := .one s1
        have r2 : Run a [⟨1, ((x0 + u : Nat) : Int), ((y0 + v : Nat) : Int), ((b.w - u : Nat) : Int), ((b.h - v : Nat) : Int)⟩] b2 := .one s2
        have r3 : Run a [⟨1, 0, 0, (a.w : Int), (a.h : Int)⟩] b3 := .one s3
        have f1 : x0 + b.w ≤ a.w := fit wb hcw1.2 hx
        have f2 : y0 + b.h ≤ a.h := fit hb' hch1.2 hy
        have f3 : b1.w = b2.w := w1.trans w2.symm
        have f4 : b1.h = b2.h := h1.trans h2.symm
        have f5 : 200 + b.h * (b.w + 2) ≤ k := Nat.le_trans (Nat.add_le_add_left hmul 200) (Nat.le_trans (by decide) hk)
        have e := crop_all g s.2.2 (n.length : Int) x0 y0 u v f1 f2 cb hu hv hub hvb r1 r2 r3 ⟨f3, f4, q1⟩ ⟨w3, h3, q3⟩ b.h 0 k (Nat.zero_add _) f5
        rw [show ((0 : Nat) : Int) = 0 from rfl] at e
        exact e
      · rw [if_neg (show ¬ decide (RasP W H r) = true from fun h => hr (of_decide_eq_true h)), implRasOk_ok W H r (by omega) k (by omega), Option.bind_some, if_neg (show ¬ decide (RasP W H r) = true from fun h => hr (of_decide_eq_true h)), eaOk_ok, Option.bind_some]
  refine ⟨k + 1, ?_⟩
  unfold laws_FnOpCrop.f
  split
  · exact hj _
  · exact hj _
end Go.Proofs.Ythnmeogafklhnaa.Pure
