/- What is blurred lies between, and is the same before or behind a turn: the pure statement of the law FnOpBlur. No condition. -/
import Derived.Test.YthnmeogafklhnaaPlSpecBlur
import Derived.Test.YthnmeogafklhnaaPlDrawOp
import Derived.Test.YthnmeogafklhnaaPlEaOk
import Derived.Test.YthnmeogafklhnaaX0
import Derived.Test.YthnmeogafklhnaaX49
import Derived.Test.YthnmeogafklhnaaX50
namespace Go.Proofs.Ythnmeogafklhnaa.Pure
open Go Go.RowKit Go.Proofs.Ythnmeogafklhnaa.X Go.Proofs.Ythnmeogafklhnaa.Pl Go.Proofs.YthnmeogafklhnaaW.PrintWords Go.Proofs.YthnmeogafklhnaaW.PrintLast Go.Proofs.YthnmeogafklhnaaW.PrintMore
theorem sumS_add (f g : Nat → Int) : ∀ n : Nat, X.sumS (fun i => f i + g i) n = X.sumS f n + X.sumS g n
  | 0 => rfl
  | n + 1 => by simp only [X.sumS]; rw [sumS_add f g n]; omega
theorem sumS_none : ∀ n : Nat, X.sumS (fun _ => 0) n = 0
  | 0 => rfl
  | n + 1 => by simp only [X.sumS]; rw [sumS_none n]; rfl
theorem sumS_swap (G : Nat → Nat → Int) (n : Nat) : ∀ m : Nat, X.sumS (fun r => X.sumS (fun c => G c r) n) m = X.sumS (fun c => X.sumS (fun r => G c r) m) n
  | 0 => (sumS_none n).symm
  | m + 1 => by
    have e := sumS_add (fun c => X.sumS (fun r => G c r) m) (fun c => G c m) n
    simp only [X.sumS] at e ⊢
    rw [sumS_swap G n m, e]
theorem sumS_front (f : Nat → Int) : ∀ n : Nat, X.sumS f (n + 1) = f 0 + X.sumS (fun i => f (i + 1)) n
  | 0 => by simp [X.sumS]
  | n + 1 => by
    rw [show X.sumS f (n + 1 + 1) = X.sumS f (n + 1) + f (n + 1) from rfl, sumS_front f n]
    simp only [X.sumS]
    omega
theorem sumS_rev (f : Nat → Int) : ∀ n : Nat, X.sumS f n = X.sumS (fun i => f (n - 1 - i)) n
  | 0 => rfl
  | n + 1 => by
    rw [sumS_front (fun i => f (n + 1 - 1 - i)) n, show X.sumS f (n + 1) = X.sumS f n + f n from rfl, sumS_rev f n, Int.add_comm]
    rw [sumS_congr (f := fun i => f (n + 1 - 1 - (i + 1))) (g := fun i => f (n - 1 - i)) n fun i _ => congrArg f (by omega)]
    rfl
theorem mean_mirror {p : S38 → Int} {a m : Pic} {x y z : Nat} (hw : m.w = a.w) (hh : m.h = a.h) (hz : z + x + 1 = a.w) (hc : ∀ u v : Int, m.c u v = a.c ((a.w : Int) - 1 - u) v) : meanS p a z y = meanS p m x y := by
  have e : X.aboutN z a.w = X.aboutN x a.w := by unfold X.aboutN; omega
  have t : X.totS (fun i j => p (a.c (i : Int) (j : Int))) (z - 1) (y - 1) (X.aboutN x a.w) (X.aboutN y a.h) = X.totS (fun i j => p (m.c (i : Int) (j : Int))) (x - 1) (y - 1) (X.aboutN x a.w) (X.aboutN y a.h) := by
    unfold X.totS
    refine sumS_congr _ fun r _ => ?_
    refine (sumS_rev _ _).trans ?_
    refine sumS_congr _ fun c h => ?_
    dsimp only
    rw [hc]
    exact congrArg p (c_eq a.c (by unfold X.aboutN at h ⊢; omega) rfl)
  unfold meanS
  rw [hw, hh, e, t]
theorem mean_turn {p : S38 → Int} {a m : Pic} {x y z : Nat} (hw : m.w = a.h) (hh : m.h = a.w) (hz : z + x + 1 = a.h) (hc : ∀ u v : Int, m.c u v = a.c v ((a.h : Int) - 1 - u)) : meanS p a y z = meanS p m x y := by
  have e : X.aboutN z a.h = X.aboutN x a.h := by unfold X.aboutN; omega
  have t : X.totS (fun i j => p (a.c (i : Int) (j : Int))) (y - 1) (z - 1) (X.aboutN y a.w) (X.aboutN x a.h) = X.totS (fun i j => p (m.c (i : Int) (j : Int))) (x - 1) (y - 1) (X.aboutN x a.h) (X.aboutN y a.w) := by
    unfold X.totS
    refine Eq.trans ?_ (sumS_swap (fun c r => p (m.c ((x - 1 + c : Nat) : Int) ((y - 1 + r : Nat) : Int))) _ _).symm
    refine (sumS_rev _ _).trans ?_
    refine sumS_congr _ fun c h => ?_
    refine sumS_congr _ fun r _ => ?_
    dsimp only
    rw [hc]
    exact congrArg p (c_eq a.c rfl (by unfold X.aboutN at h ⊢; omega))
  unfold meanS
  rw [hw, hh, e, t, Nat.mul_comm (X.aboutN x a.h)]
theorem blurC_mirror {a m : Pic} {x y z : Nat} (hw : m.w = a.w) (hh : m.h = a.h) (hz : z + x + 1 = a.w) (hc : ∀ u v : Int, m.c u v = a.c ((a.w : Int) - 1 - u) v) : blurC a (z : Int) (y : Int) = blurC m (x : Int) (y : Int) := by
  unfold blurC
  simp only [Int.toNat_natCast]
  rw [mean_mirror (p := S38.f0) hw hh hz hc, mean_mirror (p := S38.f1) hw hh hz hc, mean_mirror (p := S38.f2) hw hh hz hc, mean_mirror (p := S38.f3) hw hh hz hc]
theorem blurC_turn {a m : Pic} {x y z : Nat} (hw : m.w = a.h) (hh : m.h = a.w) (hz : z + x + 1 = a.h) (hc : ∀ u v : Int, m.c u v = a.c v ((a.h : Int) - 1 - u)) : blurC a (y : Int) (z : Int) = blurC m (x : Int) (y : Int) := by
  unfold blurC
  simp only [Int.toNat_natCast]
  rw [mean_turn (p := S38.f0) hw hh hz hc, mean_turn (p := S38.f1) hw hh hz hc, mean_turn (p := S38.f2) hw hh hz hc, mean_turn (p := S38.f3) hw hh hz hc]
def Same (a b : Pic) : Prop := a.w = b.w ∧ a.h = b.h ∧ ∀ x y : Nat, x < a.w → y < a.h → a.c (x : Int) (y : Int) = b.c (x : Int) (y : Int)
theorem blur_mirror {a b : Pic} (g : Ok a) (gb : Ok b) (wb : b.w = a.w) (hb : b.h = a.h) (cb : ∀ x y : Int, b.c x y = blurC a x y) :
    ∃ u v : Pic, Run b [⟨2, 0, 0, 0, 0⟩] u ∧ Run a [⟨2, 0, 0, 0, 0⟩, ⟨6, 0, 0, 0, 0⟩] v ∧ Ok u ∧ Same u v := by
  obtain ⟨u, du, wu, hu, cu⟩ := ex_of (does_mirror gb)
  obtain ⟨m, dm, wm, hm, cm⟩ := ex_of (does_mirror g)
  dsimp only at wu hu cu wm hm cm
  obtain ⟨v, dv, wv, hv, cv⟩ := ex_of (does_blur dm.2.2)
  dsimp only at wv hv cv
  refine ⟨u, v, .one du, .cons dm (.one dv), du.2.2, by omega, by omega, fun x y h1 h2 => ?_⟩
  rw [cu, cb, cv, show (b.w : Int) - 1 - (x : Int) = ((a.w - 1 - x : Nat) : Int) by omega]
  exact blurC_mirror wm hm (by omega) cm
theorem blur_turn {a b : Pic} (g : Ok a) (gb : Ok b) (wb : b.w = a.w) (hb : b.h = a.h) (cb : ∀ x y : Int, b.c x y = blurC a x y) :
    ∃ u v : Pic, Run b [⟨4, 0, 0, 0, 0⟩] u ∧ Run a [⟨4, 0, 0, 0, 0⟩, ⟨6, 0, 0, 0, 0⟩] v ∧ Ok u ∧ Same u v := by
  obtain ⟨u, du, wu, hu, cu⟩ := ex_of (does_turn gb)
  obtain ⟨m, dm, wm, hm, cm⟩ := ex_of (does_turn g)
  dsimp only at wu hu cu wm hm cm
  obtain ⟨v, dv, wv, hv, cv⟩ := ex_of (does_blur dm.2.2)
  dsimp only at wv hv cv
  refine ⟨u, v, .one du, .cons dm (.one dv), du.2.2, by omega, by omega, fun x y h1 h2 => ?_⟩
  rw [cu, cb, cv, show (b.h : Int) - 1 - (x : Int) = ((a.h - 1 - x : Nat) : Int) by omega]
  exact blurC_turn wm hm (by omega) cm
/-- A picture of one colour stays. -/
theorem one_colour {a : Pic} (g : Ok a) (c : S38) (hc : X.PixG c) : ∃ q v : Pic, Ok q ∧ q.w = a.w ∧ q.h = a.h ∧ q.l = List.replicate a.l.length c ∧ Run q [⟨6, 0, 0, 0, 0⟩] v ∧ Ok v ∧ Same v q := by
  obtain ⟨q, gq, wq, hq, lq, cq⟩ : ∃ q : Pic, Ok q ∧ q.w = a.w ∧ q.h = a.h ∧ q.l = List.replicate a.l.length c ∧ ∀ x y : Int, q.c x y = c := by
    refine ⟨⟨a.w, a.h, fun _ _ => c⟩, ⟨g.1, g.2.1, fun _ _ _ _ => hc⟩, rfl, rfl, ?_, fun _ _ => rfl⟩
    rw [(ok_len g).1]
    show (List.range (a.w * a.h)).map (fun _ => c) = _
    rw [List.map_const', List.length_range]
  obtain ⟨v, dv, wv, hv, cv⟩ := ex_of (does_blur gq)
  dsimp only at wv hv cv
  refine ⟨q, v, gq, wq, hq, lq, .one dv, dv.2.2, wv, hv, fun x y h1 h2 => ?_⟩
  rw [cv, cq]
  have m (p : S38 → Int) : meanS p q x y = p c := by
    have h := mean_between (p := p) (a := q) (x := x) (y := y) (by omega) (by omega) (lo := p c) (hi := p c) fun i j _ _ _ _ _ _ => by rw [cq]; exact ⟨Int.le_refl _, Int.le_refl _⟩
    omega
  unfold blurC
  rw [Int.toNat_natCast, Int.toNat_natCast, m, m, m, m]
theorem mn_left (x y : Int) : mn x y ≤ x := by unfold mn; split <;> omega
theorem mn_right (x y : Int) : mn x y ≤ y := by unfold mn; split <;> omega
theorem mx_left (x y : Int) : x ≤ mx x y := by unfold mx; split <;> omega
theorem mx_right (x y : Int) : y ≤ mx x y := by unfold mx; split <;> omega
/-- What the law counts as near. -/
def Near (w j i : Int) : Prop := wrap64 (wrap64 (Int.tmod j w - Int.tmod i w) * wrap64 (Int.tmod j w - Int.tmod i w)) ≤ 1 ∧ wrap64 (wrap64 (wrap64 (Int.tdiv j w) - wrap64 (Int.tdiv i w)) * wrap64 (wrap64 (Int.tdiv j w) - wrap64 (Int.tdiv i w))) ≤ 1
theorem sq_one {d : Int} (h1 : -1 ≤ d) (h2 : d ≤ 1) : wrap64 (d * d) ≤ 1 := by
  have : d = -1 ∨ d = 0 ∨ d = 1 := by omega
  rcases this with rfl | rfl | rfl <;> (rw [w64 (by decide) (by decide)]; decide)
theorem near_of {w q i : Nat} (hq : q ≤ 1000) (hi : i ≤ 1000) (h1 : i % w - 1 ≤ q % w) (h2 : q % w ≤ i % w + 1) (h3 : i / w - 1 ≤ q / w) (h4 : q / w ≤ i / w + 1) : Near (w : Int) (q : Int) (i : Int) := by
  have a1 := Nat.mod_le q w
  have a2 := Nat.mod_le i w
  have a3 := Nat.div_le_self q w
  have a4 := Nat.div_le_self i w
  unfold Near
  rw [Int.tmod_eq_emod_of_nonneg (Int.natCast_nonneg q), Int.tmod_eq_emod_of_nonneg (Int.natCast_nonneg i), Int.tdiv_eq_ediv_of_nonneg (Int.natCast_nonneg q), Int.tdiv_eq_ediv_of_nonneg (Int.natCast_nonneg i), ← Int.natCast_emod, ← Int.natCast_emod, ← Int.natCast_ediv, ← Int.natCast_ediv]
  generalize q % w = s at *
  generalize i % w = t at *
  generalize q / w = u at *
  generalize i / w = v at *
  rw [w64 (x := (u : Int)) (by omega) (by omega), w64 (x := (v : Int)) (by omega) (by omega), w64 (x := (s : Int) - (t : Int)) (by omega) (by omega), w64 (x := (u : Int) - (v : Int)) (by omega) (by omega)]
  exact ⟨sq_one (by omega) (by omega), sq_one (by omega) (by omega)⟩
theorem near_l {a b : Pic} (g : Ok a) (gb : Ok b) (wb : b.w = a.w) (hb : b.h = a.h) (cb : ∀ x y : Int, b.c x y = blurC a x y) (i : Nat) (hi : i < a.l.length) (P : List S38) : ∀ (d j k : Nat) (lo hi : Int), j + d = a.l.length →
    (∀ q : Nat, q < j → Near (a.w : Int) (q : Int) (i : Int) → lo ≤ (rd_T38 a.l (q : Int)).f1 ∧ (rd_T38 a.l (q : Int)).f1 ≤ hi) →
    laws_FnOpBlur.l1 (k + d + 1) (i : Int) lo hi (j : Int) (a.w : Int) (a.h : Int) a.l 6 0 0 0 0 (b.w : Int) (b.h : Int) b.l (a.w : Int) (a.h : Int) P = laws_FnOpBlur.l0 k (wrap64 ((i : Int) + 1)) (a.w : Int) (a.h : Int) a.l 6 0 0 0 0 (b.w : Int) (b.h : Int) b.l (a.w : Int) (a.h : Int) P := by
  have hl := ok_len g
  have hlb := ok_len gb
  have ga := g.1
  have hib : i < b.l.length := by rw [hlb.1, wb, hb, ← hl.1]; exact hi
  intro d
  induction d with
  | zero =>
    intro j k lo hj' hj hinv
    obtain rfl : j = a.l.length := by omega
    have hin := in_of g hi
    have e : rd_T38 b.l (i : Int) = blurC a ((i % a.w : Nat) : Int) ((i / a.w : Nat) : Int) := by rw [rd_of hib, cb, wb]
    have m := mean_between (p := S38.f1) hin.1 hin.2 (lo := lo) (hi := hj') fun u v hu hv h1 h2 h3 h4 => by
      have hp := place g hu hv
      have hmod : (v * a.w + u) % a.w = u := by rw [Nat.mul_comm, Nat.mul_add_mod]; exact Nat.mod_eq_of_lt hu
      have hdiv : (v * a.w + u) / a.w = v := by rw [Nat.mul_comm, Nat.mul_add_div (by omega), Nat.div_eq_of_lt hu, Nat.add_zero]
      rw [← hp.1]
      have h36 : v * a.w + u ≤ 1000 := by have := hp.2.1; omega
      exact hinv _ hp.2.1 (near_of h36 (by omega) (by rw [hmod]; exact h1) (by rw [hmod]; exact h2) (by rw [hdiv]; exact h3) (by rw [hdiv]; exact h4))
    have e1 : (rd_T38 b.l (i : Int)).f1 = meanS S38.f1 a (i % a.w) (i / a.w) := by rw [e]; unfold blurC; rw [Int.toNat_natCast, Int.toNat_natCast]
    simp only [laws_FnOpBlur.l1]
    rw [if_neg (Int.lt_irrefl _), if_pos (Int.natCast_nonneg i), if_pos (Int.ofNat_lt.2 hib), e1, if_neg (Int.not_lt.2 m.1), if_neg (Int.not_lt.2 m.2)]
  | succ d ih =>
    intro j k lo hj' hj hinv
    have hjl : j < a.l.length := by omega
    have hw0 : ¬ (a.w : Int) = 0 := by omega
    have hj1 : j + 1 + d = a.l.length := by omega
    have st := step64 (n := j) (by omega)
    rw [show k + (d + 1) + 1 = (k + d + 1) + 1 from rfl]
    simp only [laws_FnOpBlur.l1]
    rw [if_pos (Int.ofNat_lt.2 hjl), if_neg hw0]
    have old (lo' hi' : Int) (h1 : lo' ≤ lo) (h2 : hj' ≤ hi') (h3 : Near (a.w : Int) (j : Int) (i : Int) → lo' ≤ (rd_T38 a.l (j : Int)).f1 ∧ (rd_T38 a.l (j : Int)).f1 ≤ hi') : ∀ q : Nat, q < j + 1 → Near (a.w : Int) (q : Int) (i : Int) → lo' ≤ (rd_T38 a.l (q : Int)).f1 ∧ (rd_T38 a.l (q : Int)).f1 ≤ hi' := by
      intro q hq hn
      by_cases h : q = j
      · subst h; exact h3 hn
      · have := hinv q (Nat.lt_of_le_of_ne (Nat.le_of_lt_succ hq) h) hn
        exact ⟨Int.le_trans h1 this.1, Int.le_trans this.2 h2⟩
    by_cases c1 : wrap64 (wrap64 (Int.tmod (j : Int) (a.w : Int) - Int.tmod (i : Int) (a.w : Int)) * wrap64 (Int.tmod (j : Int) (a.w : Int) - Int.tmod (i : Int) (a.w : Int))) ≤ 1
    · rw [if_pos c1]
      by_cases c2 : wrap64 (wrap64 (wrap64 (Int.tdiv (j : Int) (a.w : Int)) - wrap64 (Int.tdiv (i : Int) (a.w : Int))) * wrap64 (wrap64 (Int.tdiv (j : Int) (a.w : Int)) - wrap64 (Int.tdiv (i : Int) (a.w : Int)))) ≤ 1
      · rw [if_pos c2, if_pos (Int.natCast_nonneg j), st]
        refine ih (j + 1) k _ _ hj1 (old _ _ (mn_left _ _) (mx_left _ _) fun _ => ⟨mn_right _ _, mx_right _ _⟩)
      · rw [if_neg c2, st]
        exact ih (j + 1) k _ _ hj1 (old _ _ (Int.le_refl _) (Int.le_refl _) fun hn => absurd hn.2 c2)
    · rw [if_neg c1, st]
      exact ih (j + 1) k _ _ hj1 (old _ _ (Int.le_refl _) (Int.le_refl _) fun hn => absurd hn.1 c1)
theorem near_all {a b : Pic} (g : Ok a) (gb : Ok b) (wb : b.w = a.w) (hb : b.h = a.h) (cb : ∀ x y : Int, b.c x y = blurC a x y) : ∀ (d i k : Nat), i + d = a.l.length → 200 + d * (a.l.length + 2) ≤ k →
    laws_FnOpBlur.l0 k (i : Int) (a.w : Int) (a.h : Int) a.l 6 0 0 0 0 (b.w : Int) (b.h : Int) b.l (a.w : Int) (a.h : Int) (List.replicate i (rd_T38 a.l 0)) = some true := by
  have hl := ok_len g
  have ga := g.1
  have gh := g.2.1
  have hc : X.PixG (rd_T38 a.l 0) := by
    have := (place g (X := 0) (Y := 0) (by omega) (by omega)).1
    rw [Nat.zero_mul] at this
    rw [show (0 : Int) = ((0 + 0 : Nat) : Int) from rfl, this]
    exact g.2.2 0 0 (by omega) (by omega)
  intro d
  induction d with
  | zero =>
    intro i k hi hk
    obtain ⟨k, rfl⟩ : ∃ m, k = m + 1 := ⟨k - 1, by omega⟩
    obtain rfl : i = a.l.length := by omega
    obtain ⟨q, v, gq, wq, hq, lq, r, gv, s⟩ := one_colour g _ hc
    simp only [laws_FnOpBlur.l0]
    rw [if_neg (Int.lt_irrefl _), ← lq, ← wq, ← hq, eaDo_ok gq r (by simp) k (by simp; omega), Option.bind_some, eaRas_pic gv (b := q) s.1 s.2.1 s.2.2 k (by omega), Option.bind_some]
  | succ d ih =>
    intro i k hi hk
    rw [Nat.succ_mul] at hk
    generalize hz : d * (a.l.length + 2) = z at *
    generalize hn : a.l.length = n at *
    obtain ⟨k, rfl⟩ : ∃ m, k = m + n + 1 + 1 := ⟨k - n - 2, by omega⟩
    have hin : i < n := by omega
    have e := near_l g gb wb hb cb i (by omega) (List.replicate (i + 1) (rd_T38 a.l 0)) n 0 k 255 0 (by omega) (fun q hq => absurd hq (Nat.not_lt_zero q))
    rw [show ((0 : Nat) : Int) = 0 from rfl] at e
    have h4 : (List.replicate i (rd_T38 a.l 0)).length < 4398046511104 := by rw [List.length_replicate]; omega
    have e1 : List.replicate i (rd_T38 a.l 0) ++ [(⟨(rd_T38 a.l 0).f0, (rd_T38 a.l 0).f1, (rd_T38 a.l 0).f2, (rd_T38 a.l 0).f3⟩ : S38)] = List.replicate (i + 1) (rd_T38 a.l 0) := List.replicate_succ'.symm
    simp only [laws_FnOpBlur.l0]
    rw [if_pos (show (i : Int) < (a.l.length : Int) by omega), if_pos (show (0 : Int) < (a.l.length : Int) by omega), if_pos h4, e1, e, step64 (n := i) (by omega)]
    exact ih (i + 1) k (by omega) (by omega)
theorem FnOpBlur : laws_FnOpBlur.Pure := by
  intro l _ hl hb
  obtain ⟨W, H, r, K, A, B, C, D, hd, hD⟩ := drawOpDo_ok l (bytes_wf hb)
  obtain ⟨k, hk⟩ : ∃ k : Nat, 4000 ≤ k := ⟨4000, by omega⟩
  refine ⟨k + 1, ?_⟩
  unfold laws_FnOpBlur.f
  by_cases h : (l.length : Int) > 1048576
  · rw [if_pos h]
  have hr36 := hD.2.2.2.2
  rw [if_neg h, hd (k + 1) (by omega), Option.bind_some, specRasOk_ok W H r (by omega) (k + 1) (by omega), Option.bind_some]
  by_cases hr : RasP W H r
  · rw [if_pos (decide_eq_true hr)]
    obtain ⟨a, g, rfl, rfl, rfl⟩ := of_ras hr
    obtain ⟨b, d, wb, hb', cb⟩ := ex_of (does_blur g)
    dsimp only at wb hb' cb
    have gb := d.2.2
    obtain ⟨u1, v1, r1, s1, k1, q1⟩ := blur_turn g gb wb hb' cb
    obtain ⟨u2, v2, r2, s2, k2, q2⟩ := blur_mirror g gb wb hb' cb
    have hl36 := ok_len g
    have h0 : 40 ≤ k + 1 := by omega
    have hmul : a.l.length * (a.l.length + 2) ≤ 36 * 38 := Nat.mul_le_mul hl36.2.2 (Nat.add_le_add_right hl36.2.2 2)
    have e := near_all g gb wb hb' cb a.l.length 0 k (Nat.zero_add _) (Nat.le_trans (Nat.add_le_add_left hmul 200) (Nat.le_trans (by decide) hk))
    rw [show ((0 : Nat) : Int) = 0 from rfl] at e
    rw [eaDo_ok g (.one d) (by simp) (k + 1) (by simp; omega), Option.bind_some, specOpDo_blur g d (k + 1) (by omega), Option.bind_some, eaRas_pic gb (b := b) rfl rfl (fun _ _ _ _ => rfl) (k + 1) h0, Option.bind_some, if_pos rfl]
    rw [eaDo_ok gb r1 (by simp) (k + 1) (by simp; omega), Option.bind_some, eaDo_ok g s1 (by simp) (k + 1) (by simp; omega), Option.bind_some, eaRas_pic k1 (b := v1) q1.1 q1.2.1 q1.2.2 (k + 1) h0, Option.bind_some, if_pos rfl]
    rw [eaDo_ok gb r2 (by simp) (k + 1) (by simp; omega), Option.bind_some, eaDo_ok g s2 (by simp) (k + 1) (by simp; omega), Option.bind_some, eaRas_pic k2 (b := v2) q2.1 q2.2.1 q2.2.2 (k + 1) h0, Option.bind_some]
    simp only [laws_FnOpBlur.j0]
    rw [if_neg (by decide)]
    exact e
  · rw [if_neg (show ¬ decide (RasP W H r) = true from fun h => hr (of_decide_eq_true h)), implRasOk_ok W H r (by omega) (k + 1) (by omega), Option.bind_some, if_neg (show ¬ decide (RasP W H r) = true from fun h => hr (of_decide_eq_true h)), eaOk_ok, Option.bind_some]
end Go.Proofs.Ythnmeogafklhnaa.Pure
