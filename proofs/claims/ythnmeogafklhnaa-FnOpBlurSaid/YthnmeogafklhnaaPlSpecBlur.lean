/- What the reference makes of a picture that is blurred. No condition. -/
import Derived.Test.YthnmeogafklhnaaPlBlur
import Derived.Test.YthnmeogafklhnaaX0
import Derived.Test.YthnmeogafklhnaaX28
import Derived.Test.YthnmeogafklhnaaX29
import Derived.Test.YthnmeogafklhnaaX30
import Derived.Test.YthnmeogafklhnaaX39
import Derived.Test.YthnmeogafklhnaaX41
import Derived.Test.YthnmeogafklhnaaX42
import Derived.Test.YthnmeogafklhnaaX43
import Derived.Test.YthnmeogafklhnaaX50
namespace Go.Proofs.Ythnmeogafklhnaa.Pl
open Go Go.RowKit Go.Proofs.Ythnmeogafklhnaa.X Go.Proofs.YthnmeogafklhnaaW.PrintWords Go.Proofs.YthnmeogafklhnaaW.PrintLast Go.Proofs.YthnmeogafklhnaaW.PrintMore
def cells (w : Nat) (c : Int → Int → S38) (n : Nat) : List S38 := (List.range n).map fun j => c ((j % w : Nat) : Int) ((j / w : Nat) : Int)
theorem cells_all (w h : Nat) (c : Int → Int → S38) : cells w c (w * h) = grid w h c := rfl
theorem cells_len (w : Nat) (c : Int → Int → S38) (n : Nat) : (cells w c n).length = n := by simp [cells]
theorem place {a : Pic} (g : Ok a) {X Y : Nat} (hX : X < a.w) (hY : Y < a.h) : rd_T38 a.l ((Y * a.w + X : Nat) : Int) = a.c (X : Int) (Y : Int) ∧ Y * a.w + X < a.l.length ∧ Y * a.w ≤ 30 := by
  have hl := ok_len g
  have gh := g.2.1
  have e := rd_grid a.w a.h a.c X Y hX hY
  have h1 : Y * a.w + a.w ≤ a.h * a.w := by
    have := Nat.mul_le_mul_right a.w (show Y + 1 ≤ a.h from hY)
    rw [Nat.succ_mul] at this
    exact this
  rw [Nat.mul_comm a.h a.w] at h1
  have h3 : Y * a.w ≤ 5 * 6 := Nat.mul_le_mul (by omega) g.1.2
  rw [← Int.natCast_mul, ← Int.natCast_add] at e
  exact ⟨e, by omega, h3⟩
theorem about_three {x W : Nat} : X.aboutN x W ≤ 3 := by unfold X.aboutN; omega
theorem mn_end {x W : Nat} (hx : x < W) (hW : W ≤ 6) : mn (wrap64 ((W : Int) - 1)) (wrap64 ((x : Int) + 1)) = ((x - 1 + X.aboutN x W : Nat) : Int) - 1 := by
  rw [w64 (x := (W : Int) - 1) (by omega) (by omega), w64 (x := (x : Int) + 1) (by omega) (by omega)]
  unfold mn X.aboutN
  split <;> omega
theorem mx_start {x : Nat} (h : x ≤ 100) : mx 0 (wrap64 ((x : Int) - 1)) = ((x - 1 : Nat) : Int) := by
  rw [w64 (by omega) (by omega)]
  unfold mx
  split <;> omega
theorem sum_step {a : Pic} (p : S38 → Int) (hp : ∀ u v, 0 ≤ X.fieldS a.w a.l p u v ∧ X.fieldS a.w a.l p u v ≤ 255) {x0 y0 nx m i : Nat} (h1 : nx ≤ 3) (h2 : m ≤ 3) (h3 : i + 1 ≤ 3) :
    wrap64 (X.curS (X.fieldS a.w a.l p) x0 y0 nx m i + p (rd_T38 a.l (((y0 + m) * a.w + (x0 + i) : Nat) : Int))) = X.curS (X.fieldS a.w a.l p) x0 y0 nx m (i + 1) := by
  have e : p (rd_T38 a.l (((y0 + m) * a.w + (x0 + i) : Nat) : Int)) = X.fieldS a.w a.l p (x0 + i) (y0 + m) := by
    unfold X.fieldS X.pix
    rw [Int.natCast_add ((y0 + m) * a.w), Int.natCast_mul]
  have hb := X.curS_bd hp x0 y0 nx m (i + 1) h1 h2 h3
  rw [e, ← X.curS_succ]
  exact w64 (by omega) (by omega)
theorem step64 {n : Nat} (h : n ≤ 1000) : wrap64 ((n : Int) + 1) = ((n + 1 : Nat) : Int) := by rw [w64 (by omega) (by omega)]; omega
theorem sMean_row {a : Pic} (g : Ok a) {x y : Nat} (hx : x < a.w) (hy : y < a.h) (m : Nat) (hm : m < X.aboutN y a.h) : ∀ (d i k : Nat), i + d = X.aboutN x a.w →
    spec_l6Mean.l1 (k + d + 1) (x : Int) (y : Int) ((m * X.aboutN x a.w + i : Nat) : Int) ((y - 1 + m : Nat) : Int) ((x - 1 + i : Nat) : Int) (a.w : Int) (a.h : Int) a.l (X.curS (X.fieldS a.w a.l S38.f0) (x - 1) (y - 1) (X.aboutN x a.w) m i) (X.curS (X.fieldS a.w a.l S38.f1) (x - 1) (y - 1) (X.aboutN x a.w) m i) (X.curS (X.fieldS a.w a.l S38.f2) (x - 1) (y - 1) (X.aboutN x a.w) m i) (X.curS (X.fieldS a.w a.l S38.f3) (x - 1) (y - 1) (X.aboutN x a.w) m i) =
      spec_l6Mean.l0 k (x : Int) (y : Int) (((m + 1) * X.aboutN x a.w : Nat) : Int) (wrap64 (((y - 1 + m : Nat) : Int) + 1)) (a.w : Int) (a.h : Int) a.l (X.totS (X.fieldS a.w a.l S38.f0) (x - 1) (y - 1) (X.aboutN x a.w) (m + 1)) (X.totS (X.fieldS a.w a.l S38.f1) (x - 1) (y - 1) (X.aboutN x a.w) (m + 1)) (X.totS (X.fieldS a.w a.l S38.f2) (x - 1) (y - 1) (X.aboutN x a.w) (m + 1)) (X.totS (X.fieldS a.w a.l S38.f3) (x - 1) (y - 1) (X.aboutN x a.w) (m + 1)) := by
  have ga := g.1
  have ga2 := g.2.1
  have n3 : X.aboutN x a.w ≤ 3 := about_three
  have m3 : X.aboutN y a.h ≤ 3 := about_three
  have hb : m * X.aboutN x a.w ≤ 3 * 3 := Nat.mul_le_mul (by omega) n3
  obtain ⟨F0, F1, F2, F3⟩ := X.fieldS_bd (ok_fits g)
  intro d
  induction d with
  | zero =>
    intro i k hi
    obtain rfl : i = X.aboutN x a.w := by omega
    have f1 : ¬ ((x - 1 + X.aboutN x a.w : Nat) : Int) ≤ ((x - 1 + X.aboutN x a.w : Nat) : Int) - 1 := by omega
    simp only [spec_l6Mean.l1]
    rw [mn_end hx ga.2, if_neg f1, ← Nat.succ_mul, X.curS_full, X.curS_full, X.curS_full, X.curS_full]
  | succ d ih =>
    intro i k hi
    generalize hkq : k + (d + 1) = kq
    have hn := ih (i + 1) k (by omega)
    have i3 : i + 1 ≤ 3 := by omega
    have mm : m ≤ 3 := by omega
    have tx : x - 1 + i < a.w := (about_in hx (by omega)).1
    have ty : y - 1 + m < a.h := (about_in hy hm).1
    have f1 : ((x - 1 + i : Nat) : Int) ≤ ((x - 1 + X.aboutN x a.w : Nat) : Int) - 1 := by omega
    have c1 : m * X.aboutN x a.w + i ≤ 1000 := by omega
    have c2 : x - 1 + i ≤ 1000 := by omega
    obtain ⟨_, e2, e3⟩ := place g tx ty
    have f2 : (0 : Int) ≤ (((y - 1 + m) * a.w + (x - 1 + i) : Nat) : Int) := Int.natCast_nonneg _
    have f3 : (((y - 1 + m) * a.w + (x - 1 + i) : Nat) : Int) < (a.l.length : Int) := Int.ofNat_lt.2 e2
    have e : wrap64 ((wrap64 (((y - 1 + m : Nat) : Int) * (a.w : Int))) + ((x - 1 + i : Nat) : Int)) = (((y - 1 + m) * a.w + (x - 1 + i) : Nat) : Int) := by
      rw [← Int.natCast_mul]
      generalize (y - 1 + m) * a.w = u at *
      rw [w64 (x := (u : Int)) (by omega) (by omega), w64 (by omega) (by omega)]
      omega
    have b0 := sum_step (a := a) S38.f0 F0 (x0 := x - 1) (y0 := y - 1) n3 mm i3
    have b1 := sum_step (a := a) S38.f1 F1 (x0 := x - 1) (y0 := y - 1) n3 mm i3
    have b2 := sum_step (a := a) S38.f2 F2 (x0 := x - 1) (y0 := y - 1) n3 mm i3
    have b3 := sum_step (a := a) S38.f3 F3 (x0 := x - 1) (y0 := y - 1) n3 mm i3
    simp only [spec_l6Mean.l1]
    rw [mn_end hx ga.2, if_pos f1, e, if_pos f2, if_pos f3, b0, b1, b2, b3, step64 c1, step64 c2, ← hkq]
    exact hn
theorem quo64 (s : Int) (n : Nat) (h0 : 0 ≤ s) (h1 : s ≤ 2295) (hn : 1 ≤ n) : wrap64 (Int.tdiv s (n : Int)) = s / (n : Int) := by
  rw [← i64_w]
  exact X.quoS s n h0 h1 hn
theorem sMean_all {a : Pic} (g : Ok a) {x y : Nat} (hx : x < a.w) (hy : y < a.h) : ∀ (d m k : Nat), m + d = X.aboutN y a.h → d * 5 < k →
    spec_l6Mean.l0 k (x : Int) (y : Int) ((m * X.aboutN x a.w : Nat) : Int) ((y - 1 + m : Nat) : Int) (a.w : Int) (a.h : Int) a.l (X.totS (X.fieldS a.w a.l S38.f0) (x - 1) (y - 1) (X.aboutN x a.w) m) (X.totS (X.fieldS a.w a.l S38.f1) (x - 1) (y - 1) (X.aboutN x a.w) m) (X.totS (X.fieldS a.w a.l S38.f2) (x - 1) (y - 1) (X.aboutN x a.w) m) (X.totS (X.fieldS a.w a.l S38.f3) (x - 1) (y - 1) (X.aboutN x a.w) m) =
      some ((blurC a (x : Int) (y : Int)).f0, (blurC a (x : Int) (y : Int)).f1, (blurC a (x : Int) (y : Int)).f2, (blurC a (x : Int) (y : Int)).f3) := by
  have ga := g.1
  have ga2 := g.2.1
  have n3 : X.aboutN x a.w ≤ 3 := about_three
  have m3 : X.aboutN y a.h ≤ 3 := about_three
  have n1 : 1 ≤ X.aboutN x a.w := about_pos hx
  have m1 : 1 ≤ X.aboutN y a.h := about_pos hy
  obtain ⟨F0, F1, F2, F3⟩ := X.fieldS_bd (ok_fits g)
  intro d
  induction d with
  | zero =>
    intro m k hi hk
    obtain ⟨k, rfl⟩ : ∃ m, k = m + 1 := ⟨k - 1, by omega⟩
    obtain rfl : m = X.aboutN y a.h := by omega
    have f1 : ¬ ((y - 1 + X.aboutN y a.h : Nat) : Int) ≤ ((y - 1 + X.aboutN y a.h : Nat) : Int) - 1 := by omega
    have hp : 1 ≤ X.aboutN y a.h * X.aboutN x a.w := Nat.mul_le_mul m1 n1
    have f2 : ¬ ((X.aboutN y a.h * X.aboutN x a.w : Nat) : Int) = 0 := by omega
    have t0 := X.totS_bd F0 (x - 1) (y - 1) (X.aboutN x a.w) (X.aboutN y a.h) n3 m3
    have t1 := X.totS_bd F1 (x - 1) (y - 1) (X.aboutN x a.w) (X.aboutN y a.h) n3 m3
    have t2 := X.totS_bd F2 (x - 1) (y - 1) (X.aboutN x a.w) (X.aboutN y a.h) n3 m3
    have t3 := X.totS_bd F3 (x - 1) (y - 1) (X.aboutN x a.w) (X.aboutN y a.h) n3 m3
    simp only [spec_l6Mean.l0]
    rw [mn_end hy ga2.2, if_neg f1, if_neg f2, quo64 _ _ t0.1 t0.2 hp, quo64 _ _ t1.1 t1.2 hp, quo64 _ _ t2.1 t2.2 hp, quo64 _ _ t3.1 t3.2 hp, ← blurS_c a hx hy]
    unfold X.blurS
    simp only [Int.toNat_natCast]
  | succ d ih =>
    intro m k hi hk
    obtain ⟨j, hj⟩ : ∃ j, k = j + X.aboutN x a.w + 1 + 1 := ⟨k - X.aboutN x a.w - 2, by omega⟩
    have hm : m < X.aboutN y a.h := by omega
    have f1 : ((y - 1 + m : Nat) : Int) ≤ ((y - 1 + X.aboutN y a.h : Nat) : Int) - 1 := by omega
    have hn := ih (m + 1) j (by omega) (by omega)
    have c1 : y - 1 + m ≤ 1000 := by omega
    have e := sMean_row g hx hy m hm (X.aboutN x a.w) 0 j (by omega)
    rw [hj]
    simp only [spec_l6Mean.l0]
    rw [mn_end hy ga2.2, if_pos f1, mx_start (show x ≤ 100 by omega)]
    refine Eq.trans ?_ hn
    rw [Nat.add_zero, Nat.add_zero, X.curS_zero, X.curS_zero, X.curS_zero, X.curS_zero, step64 c1] at e
    exact e
theorem sMean_ok {a : Pic} (g : Ok a) {x y : Nat} (hx : x < a.w) (hy : y < a.h) (k : Nat) (hk : 20 ≤ k) :
    spec_l6Mean.f k (a.w : Int) (a.h : Int) a.l (x : Int) (y : Int) = some ((blurC a (x : Int) (y : Int)).f0, (blurC a (x : Int) (y : Int)).f1, (blurC a (x : Int) (y : Int)).f2, (blurC a (x : Int) (y : Int)).f3) := by
  have gh := g.2.1
  have m3 : X.aboutN y a.h ≤ 3 := about_three
  have e := sMean_all g hx hy (X.aboutN y a.h) 0 k (Nat.zero_add _) (by omega)
  unfold spec_l6Mean.f
  rw [mx_start (show y ≤ 100 by omega)]
  rw [Nat.zero_mul, Nat.add_zero] at e
  exact e
theorem cells_next {w i : Nat} (d : Int → Int → S38) (v : S38) (hv : v = d ((i % w : Nat) : Int) ((i / w : Nat) : Int)) : cells w d i ++ [v] = cells w d (i + 1) := by
  unfold cells
  rw [List.range_succ, List.map_append, List.map_singleton, hv]
theorem rd_of {a : Pic} {i : Nat} (h : i < a.l.length) : rd_T38 a.l (i : Int) = a.c ((i % a.w : Nat) : Int) ((i / a.w : Nat) : Int) := by
  rw [rdP h]; exact grid_get _ _ _ _ h
theorem in_of {a : Pic} (g : Ok a) {i : Nat} (h : i < a.l.length) : i % a.w < a.w ∧ i / a.w < a.h := by
  have gw := g.1
  exact ⟨Nat.mod_lt _ (by omega), Nat.div_lt_of_lt_mul (by rw [← (ok_len g).1]; exact h)⟩
theorem each_l {a : Pic} (g : Ok a) (K A B C D : Int) (d : Int → Int → S38) (hS : ∀ (i k : Nat) (x : List S38), i < a.l.length → 30 ≤ k → x.length < 100 →
    spec_l6Each.l0 (k + 1) (i : Int) (a.w : Int) (a.h : Int) a.l K A B C D (a.w : Int) (a.h : Int) x = spec_l6Each.l0 k (wrap64 ((i : Int) + 1)) (a.w : Int) (a.h : Int) a.l K A B C D (a.w : Int) (a.h : Int) (x ++ [d ((i % a.w : Nat) : Int) ((i / a.w : Nat) : Int)])) : ∀ (n i k : Nat), i + n = a.l.length → n + 40 < k →
    spec_l6Each.l0 k (i : Int) (a.w : Int) (a.h : Int) a.l K A B C D (a.w : Int) (a.h : Int) (cells a.w d i) = some ((a.w : Int), (a.h : Int), grid a.w a.h d) := by
  have hl := ok_len g
  intro n
  induction n with
  | zero =>
    intro i k hi hk
    obtain ⟨k, rfl⟩ : ∃ m, k = m + 1 := ⟨k - 1, by omega⟩
    obtain rfl : i = a.l.length := by omega
    simp only [spec_l6Each.l0]
    rw [if_neg (Int.lt_irrefl _), hl.1, cells_all]
  | succ n ih =>
    intro i k hi hk
    obtain ⟨k, rfl⟩ : ∃ m, k = m + 1 := ⟨k - 1, by omega⟩
    have hn := ih (i + 1) k (by omega) (by omega)
    have i1 : i < a.l.length := by omega
    have i2 : i ≤ 1000 := by omega
    have i3 : 30 ≤ k := by omega
    have i4 : i < 100 := by omega
    rw [hS i k _ i1 i3 (by rw [cells_len]; exact i4), cells_next d _ rfl, step64 i2]
    exact hn
theorem each_blur {a : Pic} (g : Ok a) (A B C D : Int) (k : Nat) (hk : 100 ≤ k) : spec_l6Each.f k (a.w : Int) (a.h : Int) a.l 6 A B C D = some ((a.w : Int), (a.h : Int), grid a.w a.h (blurC a)) := by
  have hl := ok_len g
  have e := each_l g 6 A B C D (blurC a) (fun i k x hi hk hx => by
    have h4 : x.length < 4398046511104 := Nat.lt_trans hx (by decide)
    have hw : ¬ (a.w : Int) = 0 := by have := g.1.1; omega
    have hd := Nat.div_le_self i a.w
    have e1 : Int.tmod (i : Int) (a.w : Int) = ((i % a.w : Nat) : Int) := by rw [Int.tmod_eq_emod_of_nonneg (Int.natCast_nonneg i), ← Int.natCast_emod]
    have e2 : wrap64 (Int.tdiv (i : Int) (a.w : Int)) = ((i / a.w : Nat) : Int) := by
      rw [Int.tdiv_eq_ediv_of_nonneg (Int.natCast_nonneg i), ← Int.natCast_ediv]
      generalize i / a.w = q at *
      exact w64 (by omega) (by omega)
    have hm := sMean_ok g (in_of g hi).1 (in_of g hi).2 k (Nat.le_trans (by decide) hk)
    simp only [spec_l6Each.l0]
    rw [if_pos (Int.ofNat_lt.2 hi), if_neg (by decide), if_pos trivial, if_neg hw, e1, e2, hm, Option.bind_some, if_pos h4]) a.l.length 0 k (Nat.zero_add _) (by omega)
  unfold spec_l6Each.f
  exact e
theorem specOpOk_blur : spec_OpOk.f 6 0 0 0 0 = some true := by
  unfold spec_OpOk.f spec_l1In.f
  decide
theorem specOpDo_blur {a b : Pic} (g : Ok a) (d : Does a ⟨6, 0, 0, 0, 0⟩ b) (k : Nat) (hk : 200 ≤ k) : spec_OpDo.f k (a.w : Int) (a.h : Int) a.l 6 0 0 0 0 = some ((b.w : Int), (b.h : Int), b.l, true) := by
  have hl := ok_len g
  have hr := ok_ras g
  have e : X.opGo a.w a.h a.l 6 0 0 0 0 = ((b.w : Int), (b.h : Int), b.l, true) := d.2.1
  rw [(does_blur g).2.1] at e
  unfold spec_OpDo.f
  rw [specRasOk_ok _ _ _ (by omega) k (by omega), Option.bind_some, if_pos (decide_eq_true hr), specOpOk_blur, Option.bind_some, if_pos rfl]
  unfold spec_l6Do.f
  rw [if_neg (by decide), if_neg (by decide), if_neg (by decide), if_neg (by decide), if_neg (by decide), each_blur g 0 0 0 0 k (by omega), Option.bind_some, Option.bind_some]
  exact congrArg some e
end Go.Proofs.Ythnmeogafklhnaa.Pl
