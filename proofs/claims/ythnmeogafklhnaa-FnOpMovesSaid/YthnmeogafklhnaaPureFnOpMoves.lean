/- What is turned has the same colours: the pure statement of the law FnOpMoves. No condition. -/
import Derived.Test.YthnmeogafklhnaaPlDoAll
import Derived.Test.YthnmeogafklhnaaX0
import Derived.Test.YthnmeogafklhnaaX47
namespace Go.Proofs.Ythnmeogafklhnaa.Pure
open Go Go.RowKit Go.Proofs.Ythnmeogafklhnaa.X Go.Proofs.Ythnmeogafklhnaa.Pl Go.Proofs.YthnmeogafklhnaaW.PrintWords Go.Proofs.YthnmeogafklhnaaW.PrintLast Go.Proofs.YthnmeogafklhnaaW.PrintMore
/-- A sum of so many. -/
def tally (g : Nat → Nat) : Nat → Nat
  | 0 => 0
  | n + 1 => tally g n + g n
theorem tally_congr {f g : Nat → Nat} : ∀ n : Nat, (∀ i, i < n → f i = g i) → tally f n = tally g n
  | 0, _ => rfl
  | n + 1, h => by
    simp only [tally]
    rw [tally_congr n fun i hi => h i (by omega), h n (by omega)]
theorem tally_add (f g : Nat → Nat) : ∀ n : Nat, tally (fun i => f i + g i) n = tally f n + tally g n
  | 0 => rfl
  | n + 1 => by
    simp only [tally]
    rw [tally_add f g n]; omega
theorem tally_none : ∀ n : Nat, tally (fun _ => 0) n = 0
  | 0 => rfl
  | n + 1 => by simp only [tally]; rw [tally_none n]
theorem tally_split (g : Nat → Nat) (n : Nat) : ∀ m : Nat, tally g (n + m) = tally g n + tally (fun i => g (n + i)) m
  | 0 => rfl
  | m + 1 => by
    rw [← Nat.add_assoc]
    simp only [tally]
    rw [tally_split g n m]; omega
theorem tally_rev : ∀ (n : Nat) (g : Nat → Nat), tally (fun i => g (n - 1 - i)) n = tally g n
  | 0, _ => rfl
  | n + 1, g => by
    have h1 := tally_split g 1 n
    rw [Nat.add_comm 1 n] at h1
    have h0 : tally g 1 = g 0 := Nat.zero_add _
    have h2 := tally_rev n (fun i => g (1 + i))
    have h3 : tally (fun i => g (n + 1 - 1 - i)) n = tally (fun i => g (1 + (n - 1 - i))) n := tally_congr n fun i hi => congrArg g (by omega)
    have h4 : tally (fun i => g (n + 1 - 1 - i)) (n + 1) = tally (fun i => g (n + 1 - 1 - i)) n + g (n + 1 - 1 - n) := rfl
    rw [h4, h1, h3, h2, h0, show n + 1 - 1 - n = 0 by omega, Nat.add_comm]
theorem tally_swap (g : Nat → Nat → Nat) (w : Nat) : ∀ h : Nat, tally (fun y => tally (fun x => g x y) w) h = tally (fun x => tally (fun y => g x y) h) w
  | 0 => by simp only [tally]; rw [tally_none]
  | h + 1 => by
    simp only [tally]
    rw [tally_swap g w h, tally_add]
theorem tally_rows (f : Nat → Nat → Nat) (w : Nat) (hw : 0 < w) : ∀ h : Nat, tally (fun j => f (j % w) (j / w)) (w * h) = tally (fun y => tally (fun x => f x y) w) h
  | 0 => rfl
  | h + 1 => by
    rw [Nat.mul_succ, tally_split, tally_rows f w hw h]
    simp only [tally]
    congr 1
    refine tally_congr w fun i hi => ?_
    rw [Nat.mul_add_mod, Nat.mod_eq_of_lt hi, Nat.mul_add_div hw, Nat.div_eq_of_lt hi, Nat.add_zero]
def same (u v : S38) : Nat := if (u.f0 == v.f0 && (u.f1 == v.f1 && (u.f2 == v.f2 && (u.f3 == v.f3)))) = true then 1 else 0
theorem tally_le (f : Nat → S38) (p : S38) : ∀ n : Nat, tally (fun i => same (f i) p) n ≤ n
  | 0 => Nat.le_refl _
  | n + 1 => by
    have h1 := tally_le f p n
    have h2 : same (f n) p ≤ 1 := by unfold same; split <;> omega
    simp only [tally]
    omega
theorem count_pic {a : Pic} (g : Ok a) (p : S38) : tally (fun n => same (rd_T38 a.l (n : Int)) p) a.l.length = tally (fun y => tally (fun x => same (a.c (x : Int) (y : Int)) p) a.w) a.h := by
  have gw := g.1.1
  rw [tally_congr a.l.length (g := fun n => same (a.c ((n % a.w : Nat) : Int) ((n / a.w : Nat) : Int)) p) fun i hi => by rw [rd_of hi], (ok_len g).1]
  exact tally_rows (fun x y => same (a.c (x : Int) (y : Int)) p) a.w gw a.h
theorem count_mirror {a b : Pic} (wb : b.w = a.w) (hb : b.h = a.h) (cb : ∀ x y : Int, b.c x y = a.c ((a.w : Int) - 1 - x) y) (p : S38) :
    tally (fun y => tally (fun x => same (b.c (x : Int) (y : Int)) p) b.w) b.h = tally (fun y => tally (fun x => same (a.c (x : Int) (y : Int)) p) a.w) a.h := by
  rw [wb, hb]
  refine tally_congr a.h fun y _ => ?_
  rw [← tally_rev a.w fun x => same (a.c (x : Int) (y : Int)) p]
  refine tally_congr a.w fun x hx => ?_
  rw [cb, c_eq a.c (show (a.w : Int) - 1 - (x : Int) = ((a.w - 1 - x : Nat) : Int) by omega) rfl]
theorem count_over {a b : Pic} (wb : b.w = a.w) (hb : b.h = a.h) (cb : ∀ x y : Int, b.c x y = a.c x ((a.h : Int) - 1 - y)) (p : S38) :
    tally (fun y => tally (fun x => same (b.c (x : Int) (y : Int)) p) b.w) b.h = tally (fun y => tally (fun x => same (a.c (x : Int) (y : Int)) p) a.w) a.h := by
  rw [wb, hb, ← tally_rev a.h fun y => tally (fun x => same (a.c (x : Int) (y : Int)) p) a.w]
  refine tally_congr a.h fun y hy => tally_congr a.w fun x _ => ?_
  rw [cb, c_eq a.c rfl (show (a.h : Int) - 1 - (y : Int) = ((a.h - 1 - y : Nat) : Int) by omega)]
theorem count_turn {a b : Pic} (wb : b.w = a.h) (hb : b.h = a.w) (cb : ∀ x y : Int, b.c x y = a.c y ((a.h : Int) - 1 - x)) (p : S38) :
    tally (fun y => tally (fun x => same (b.c (x : Int) (y : Int)) p) b.w) b.h = tally (fun y => tally (fun x => same (a.c (x : Int) (y : Int)) p) a.w) a.h := by
  rw [wb, hb, tally_swap (fun x y => same (a.c (x : Int) (y : Int)) p) a.w a.h]
  refine tally_congr a.w fun y _ => ?_
  rw [← tally_rev a.h fun x => same (a.c (y : Int) (x : Int)) p]
  refine tally_congr a.h fun x hx => ?_
  rw [cb, c_eq a.c rfl (show (a.h : Int) - 1 - (x : Int) = ((a.h - 1 - x : Nat) : Int) by omega)]
theorem moves_row (l x : List S38) (hx : x.length = l.length) (hl : l.length ≤ 36) (i : Nat) (hi : i < l.length) (W H W2 H2 : Int)
    (he : tally (fun n => same (rd_T38 l (n : Int)) (rd_T38 l (i : Int))) l.length = tally (fun n => same (rd_T38 x (n : Int)) (rd_T38 l (i : Int))) l.length) : ∀ (d j k : Nat), j + d = l.length →
    laws_FnOpMoves.l1 (k + d + 1) (i : Int) ((tally (fun n => same (rd_T38 l (n : Int)) (rd_T38 l (i : Int))) j : Nat) : Int) ((tally (fun n => same (rd_T38 x (n : Int)) (rd_T38 l (i : Int))) j : Nat) : Int) (j : Int) W H l W2 H2 x = laws_FnOpMoves.l0 k (wrap64 ((i : Int) + 1)) W H l W2 H2 x := by
  intro d
  induction d with
  | zero =>
    intro j k hj
    obtain rfl : j = l.length := by omega
    simp only [laws_FnOpMoves.l1]
    rw [if_neg (Int.lt_irrefl _), he, if_pos rfl]
  | succ d ih =>
    intro j k hj
    generalize hkq : k + (d + 1) = q
    have hn := ih (j + 1) k (by omega)
    have h1 : (j : Int) < (l.length : Int) := by omega
    have h2 : (j : Int) < (x.length : Int) := by omega
    have h3 : (i : Int) < (l.length : Int) := by omega
    have j3 : j ≤ 1000 := by omega
    have a3 := Nat.le_trans (tally_le (fun n : Nat => rd_T38 l (n : Int)) (rd_T38 l (i : Int)) j) j3
    have b3 := Nat.le_trans (tally_le (fun n : Nat => rd_T38 x (n : Int)) (rd_T38 l (i : Int)) j) j3
    have tA : tally (fun n => same (rd_T38 l (n : Int)) (rd_T38 l (i : Int))) (j + 1) = tally (fun n => same (rd_T38 l (n : Int)) (rd_T38 l (i : Int))) j + same (rd_T38 l (j : Int)) (rd_T38 l (i : Int)) := rfl
    have tB : tally (fun n => same (rd_T38 x (n : Int)) (rd_T38 l (i : Int))) (j + 1) = tally (fun n => same (rd_T38 x (n : Int)) (rd_T38 l (i : Int))) j + same (rd_T38 x (j : Int)) (rd_T38 l (i : Int)) := rfl
    rw [tA, tB] at hn
    simp only [laws_FnOpMoves.l1]
    rw [if_pos h1, if_pos (Int.natCast_nonneg j), if_pos (Int.natCast_nonneg i), if_pos h3, step64 j3, ← hkq]
    by_cases e1 : ((rd_T38 l (j : Int)).f0 == (rd_T38 l (i : Int)).f0 && ((rd_T38 l (j : Int)).f1 == (rd_T38 l (i : Int)).f1 && ((rd_T38 l (j : Int)).f2 == (rd_T38 l (i : Int)).f2 && ((rd_T38 l (j : Int)).f3 == (rd_T38 l (i : Int)).f3)))) = true
    · have s1 : same (rd_T38 l (j : Int)) (rd_T38 l (i : Int)) = 1 := if_pos e1
      rw [if_pos e1, if_pos h2, step64 a3]
      rw [s1] at hn
      by_cases e2 : ((rd_T38 x (j : Int)).f0 == (rd_T38 l (i : Int)).f0 && ((rd_T38 x (j : Int)).f1 == (rd_T38 l (i : Int)).f1 && ((rd_T38 x (j : Int)).f2 == (rd_T38 l (i : Int)).f2 && ((rd_T38 x (j : Int)).f3 == (rd_T38 l (i : Int)).f3)))) = true
      · have s2 : same (rd_T38 x (j : Int)) (rd_T38 l (i : Int)) = 1 := if_pos e2
        rw [if_pos e2, step64 b3]
        rw [s2] at hn
        exact hn
      · have s2 : same (rd_T38 x (j : Int)) (rd_T38 l (i : Int)) = 0 := if_neg e2
        rw [if_neg e2]
        rw [s2] at hn
        exact hn
    · have s1 : same (rd_T38 l (j : Int)) (rd_T38 l (i : Int)) = 0 := if_neg e1
      rw [if_neg e1, if_pos h2]
      rw [s1] at hn
      by_cases e2 : ((rd_T38 x (j : Int)).f0 == (rd_T38 l (i : Int)).f0 && ((rd_T38 x (j : Int)).f1 == (rd_T38 l (i : Int)).f1 && ((rd_T38 x (j : Int)).f2 == (rd_T38 l (i : Int)).f2 && ((rd_T38 x (j : Int)).f3 == (rd_T38 l (i : Int)).f3)))) = true
      · have s2 : same (rd_T38 x (j : Int)) (rd_T38 l (i : Int)) = 1 := if_pos e2
        rw [if_pos e2, step64 b3]
        rw [s2] at hn
        exact hn
      · have s2 : same (rd_T38 x (j : Int)) (rd_T38 l (i : Int)) = 0 := if_neg e2
        rw [if_neg e2]
        rw [s2] at hn
        exact hn
theorem moves_all (l x : List S38) (hx : x.length = l.length) (hl : l.length ≤ 36) (W H W2 H2 : Int)
    (he : ∀ p : S38, tally (fun n => same (rd_T38 l (n : Int)) p) l.length = tally (fun n => same (rd_T38 x (n : Int)) p) l.length) : ∀ (d i k : Nat), i + d = l.length → d * (l.length + 2) < k →
    laws_FnOpMoves.l0 k (i : Int) W H l W2 H2 x = some true := by
  intro d
  induction d with
  | zero =>
    intro i k hi hk
    obtain ⟨k, rfl⟩ : ∃ m, k = m + 1 := ⟨k - 1, by omega⟩
    obtain rfl : i = l.length := by omega
    simp only [laws_FnOpMoves.l0]
    rw [if_neg (Int.lt_irrefl _)]
  | succ d ih =>
    intro i k hi hk
    rw [Nat.succ_mul] at hk
    generalize hz : d * (l.length + 2) = z at *
    obtain ⟨k, rfl⟩ : ∃ m, k = m + l.length + 1 + 1 := ⟨k - l.length - 2, by omega⟩
    have h1 : (i : Int) < (l.length : Int) := by omega
    have i3 : i ≤ 1000 := by omega
    have hn := ih (i + 1) k (by omega) (by omega)
    have e := moves_row l x hx hl i (by omega) W H W2 H2 (he _) l.length 0 k (Nat.zero_add _)
    rw [step64 i3, hn] at e
    simp only [laws_FnOpMoves.l0]
    rw [if_pos h1]
    exact e
theorem moves_pic {a b : Pic} (g : Ok a) (gb : Ok b) (hl : b.l.length = a.l.length) (he : ∀ p : S38, tally (fun y => tally (fun x => same (b.c (x : Int) (y : Int)) p) b.w) b.h = tally (fun y => tally (fun x => same (a.c (x : Int) (y : Int)) p) a.w) a.h) (k : Nat) (hk : 2000 ≤ k) :
    laws_FnOpMoves.l0 k 0 (a.w : Int) (a.h : Int) a.l (b.w : Int) (b.h : Int) b.l = some true := by
  have h36 := (ok_len g).2.2
  have hm : a.l.length * (a.l.length + 2) < k := Nat.lt_of_le_of_lt (Nat.mul_le_mul h36 (Nat.add_le_add_right h36 2)) (Nat.lt_of_lt_of_le (by decide) hk)
  refine moves_all a.l b.l hl h36 _ _ _ _ (fun p => ?_) a.l.length 0 k (Nat.zero_add _) hm
  rw [count_pic g p, ← he p, ← count_pic gb p, hl]
theorem FnOpMoves : laws_FnOpMoves.Pure := by
  intro l _ hl hb
  obtain ⟨W, H, r, K, A, B, C, D, hd, hD⟩ := drawOpDo_ok l (bytes_wf hb)
  obtain ⟨k, hk⟩ : ∃ k : Nat, 5000 ≤ k := ⟨5000, by omega⟩
  refine ⟨k + 1 + 1, ?_⟩
  unfold laws_FnOpMoves.f
  by_cases h : (l.length : Int) > 1048576
  · rw [if_pos h]
  have hr36 := hD.2.2.2.2
  have hx36 := doS_len W H r K A B C D
  rw [if_neg h, hd (k + 1 + 1) (by omega), Option.bind_some, implOpDo_ok W H r K A B C D (by omega) (k + 1 + 1) (by omega), Option.bind_some, specOpDo_ok W H r K A B C D (by omega) (k + 1 + 1) (by omega), Option.bind_some,
    eaRas_self _ _ _ (by omega) (k + 1 + 1) (by omega), Option.bind_some, if_pos rfl]
  have hb : ((doS W H r K A B C D).2.2.2 != (doS W H r K A B C D).2.2.2) = false := by simp
  have hno (x : Int × Int × List S38 × Bool) : laws_FnOpMoves.j1 (k + 1) true W H r x.1 x.2.1 x.2.2.1 = some true := by
    simp only [laws_FnOpMoves.j1]
    rw [if_pos trivial, eaOk_ok, Option.bind_some]
  rw [hb]
  simp only [laws_FnOpMoves.j0]
  rw [if_neg (by decide)]
  by_cases hc : RasP W H r ∧ OpQ K A B C D
  · have hp := (opQ_iff _ _ _ _ _).1 hc.2
    by_cases h2 : K = 2
    · subst h2
      obtain ⟨rfl, rfl, rfl, rfl⟩ : A = 0 ∧ B = 0 ∧ C = 0 ∧ D = 0 := by unfold X.OpP at hp; omega
      unfold doS
      rw [if_pos hc]
      obtain ⟨a, g, rfl, rfl, rfl⟩ := of_ras hc.1
      obtain ⟨b, d, wb, hb, cb⟩ := ex_of (does_mirror g)
      dsimp only at wb hb cb
      have e := d.2.1
      dsimp only at e
      rw [Int.toNat_natCast, Int.toNat_natCast, e]
      dsimp only
      rw [if_pos rfl, if_pos rfl]
      simp only [laws_FnOpMoves.j1]
      rw [if_neg (by decide)]
      exact moves_pic g d.2.2 (by rw [(ok_len d.2.2).1, (ok_len g).1, wb, hb]) (fun p => count_mirror wb hb cb p) k (by omega)
    by_cases h3 : K = 3
    · subst h3
      obtain ⟨rfl, rfl, rfl, rfl⟩ : A = 0 ∧ B = 0 ∧ C = 0 ∧ D = 0 := by unfold X.OpP at hp; omega
      unfold doS
      rw [if_pos hc]
      obtain ⟨a, g, rfl, rfl, rfl⟩ := of_ras hc.1
      obtain ⟨b, d, wb, hb, cb⟩ := ex_of (does_over g)
      dsimp only at wb hb cb
      have e := d.2.1
      dsimp only at e
      rw [Int.toNat_natCast, Int.toNat_natCast, e]
      dsimp only
      rw [if_pos rfl, if_neg (by decide), if_pos rfl]
      simp only [laws_FnOpMoves.j1]
      rw [if_neg (by decide)]
      exact moves_pic g d.2.2 (by rw [(ok_len d.2.2).1, (ok_len g).1, wb, hb]) (fun p => count_over wb hb cb p) k (by omega)
    by_cases h4 : K = 4
    · subst h4
      obtain ⟨rfl, rfl, rfl, rfl⟩ : A = 0 ∧ B = 0 ∧ C = 0 ∧ D = 0 := by unfold X.OpP at hp; omega
      unfold doS
      rw [if_pos hc]
      obtain ⟨a, g, rfl, rfl, rfl⟩ := of_ras hc.1
      obtain ⟨b, d, wb, hb, cb⟩ := ex_of (does_turn g)
      dsimp only at wb hb cb
      have e := d.2.1
      dsimp only at e
      rw [Int.toNat_natCast, Int.toNat_natCast, e]
      dsimp only
      rw [if_pos rfl, if_neg (by decide), if_neg (by decide), show ((4 : Int) != 4) = false by decide]
      simp only [laws_FnOpMoves.j1]
      rw [if_neg (by decide)]
      exact moves_pic g d.2.2 (by rw [(ok_len d.2.2).1, (ok_len g).1, wb, hb, Nat.mul_comm]) (fun p => count_turn wb hb cb p) k (by omega)
    · rw [if_neg h2, if_neg h3, show (K != 4) = true by simpa using h4]
      split
      · exact hno _
      · exact hno _
  · unfold doS
    rw [if_neg hc, if_neg (by decide)]
    exact hno (0, 0, [], false)
end Go.Proofs.Ythnmeogafklhnaa.Pure
