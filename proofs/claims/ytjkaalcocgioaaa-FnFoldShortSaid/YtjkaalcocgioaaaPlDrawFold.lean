/- What is drawn as operations to be folded: the drawing ends. The code is bytes, no more than 2000 are looked at. -/
import Derived.Test.YtjkaalcocgioaaaPlPick
import Derived.Test.YtjkaalcocgioaaaX0
import Derived.Test.YtjkaalcocgioaaaX21
import Derived.Test.YtjkaalcocgioaaaX22
namespace Go.Proofs.Ytjkaalcocgioaaa.Pl
open Go Go.RowKit Go.Proofs.Ytjkaalcocgioaaa.X Go.Proofs.YtjkaalcocgioaaaW.PrintWords Go.Proofs.YtjkaalcocgioaaaW.PrintLast Go.Proofs.YtjkaalcocgioaaaW.PrintMore
theorem opEnd (s : List Int) (hs : Bytes s) (hl : s.length ≤ 2000) (p n K A B C D : Int) (h0 : 0 ≤ p) (h1 : p ≤ 800000) (hn : n ≤ 1000000) :
    ∃ R : Int × Int × Int × Int × Int × Int, (∀ k, 2 ≤ k → (spec_l20Op.j0 k n s p K A B C D = some R)) ∧ p ≤ R.2.2.2.2.2 ∧ R.2.2.2.2.2 ≤ p + 3 := by
  obtain ⟨o, q1, eo, ho0, ho1, hof⟩ := odd_ok s hs hl p n h0 (by omega) hn
  cases o with
  | false =>
    refine ⟨(K, A, B, C, D, q1), fun k hk => ?_, (by show p ≤ q1; omega), (by show q1 ≤ p + 3; omega)⟩
    obtain ⟨k, rfl⟩ : ∃ m, k = m + 1 := ⟨k - 1, by omega⟩
    simp only [spec_l20Op.j0]
    rw [eo k (by omega), Option.bind_some, if_neg (by simp)]
  | true =>
    obtain ⟨r, er, r0, r1, _⟩ := pick_ok s hs hl q1 4 (by omega) (by omega)
    obtain ⟨t, et, t0, t1, _⟩ := pick_ok s hs hl (q1 + 1) 2 (by omega) (by omega)
    replace t1 := t1 (by omega)
    by_cases c0 : r = 0
    · refine ⟨(rd [0, 9] t, A, B, C, D, q1 + 1 + 1), fun k hk => ?_, (by show p ≤ q1 + 1 + 1; omega), (by show q1 + 1 + 1 ≤ p + 3; omega)⟩
      obtain ⟨k, rfl⟩ : ∃ m, k = m + 1 := ⟨k - 1, by omega⟩
      simp only [spec_l20Op.j0]
      rw [eo k (by omega), Option.bind_some, if_pos rfl, er k (by omega), Option.bind_some, if_pos c0, Option.bind_some, et k (by omega), Option.bind_some, if_pos t0, if_pos (by simpa using t1)]
    by_cases c1 : r = 1
    · refine ⟨(K, rd [-1, 256] t, B, C, D, q1 + 1 + 1), fun k hk => ?_, (by show p ≤ q1 + 1 + 1; omega), (by show q1 + 1 + 1 ≤ p + 3; omega)⟩
      obtain ⟨k, rfl⟩ : ∃ m, k = m + 1 := ⟨k - 1, by omega⟩
      simp only [spec_l20Op.j0]
      rw [eo k (by omega), Option.bind_some, if_pos rfl, er k (by omega), Option.bind_some, if_neg c0, if_pos c1, Option.bind_some, et k (by omega), Option.bind_some, if_pos t0, if_pos (by simpa using t1)]
    by_cases c2 : r = 2
    · refine ⟨(K, A, B, rd [-1, 256] t, D, q1 + 1 + 1), fun k hk => ?_, (by show p ≤ q1 + 1 + 1; omega), (by show q1 + 1 + 1 ≤ p + 3; omega)⟩
      obtain ⟨k, rfl⟩ : ∃ m, k = m + 1 := ⟨k - 1, by omega⟩
      simp only [spec_l20Op.j0]
      rw [eo k (by omega), Option.bind_some, if_pos rfl, er k (by omega), Option.bind_some, if_neg c0, if_neg c1, if_pos c2, Option.bind_some, et k (by omega), Option.bind_some, if_pos t0, if_pos (by simpa using t1)]
    · refine ⟨(K, A, B, C, rd [1, 7] t, q1 + 1 + 1), fun k hk => ?_, (by show p ≤ q1 + 1 + 1; omega), (by show q1 + 1 + 1 ≤ p + 3; omega)⟩
      obtain ⟨k, rfl⟩ : ∃ m, k = m + 1 := ⟨k - 1, by omega⟩
      simp only [spec_l20Op.j0]
      rw [eo k (by omega), Option.bind_some, if_pos rfl, er k (by omega), Option.bind_some, if_neg c0, if_neg c1, if_neg c2, Option.bind_some, et k (by omega), Option.bind_some, if_pos t0, if_pos (by simpa using t1)]
theorem op_ok (s : List Int) (hs : Bytes s) (hl : s.length ≤ 2000) (p n : Int) (h0 : 0 ≤ p) (h1 : p ≤ 700000) (hn : n ≤ 1000000) :
    ∃ R : Int × Int × Int × Int × Int × Int, (∀ k, 2 ≤ k → spec_l20Op.f k s p n = some R) ∧ p ≤ R.2.2.2.2.2 ∧ R.2.2.2.2.2 ≤ p + 10 := by
  obtain ⟨r, er, r0, r1, _⟩ := pick_ok s hs hl p 8 h0 (by omega)
  replace r1 := r1 (by omega)
  by_cases c1 : wrap64 (1 + r) = 1
  · obtain ⟨r2, e2, _, _, _⟩ := pick_ok s hs hl (p + 1) 3 (by omega) (by omega)
    obtain ⟨r3, e3, _, _, _⟩ := pick_ok s hs hl (p + 1 + 1) 3 (by omega) (by omega)
    obtain ⟨r4, e4, _, _, _⟩ := pick_ok s hs hl (p + 1 + 1 + 1) 4 (by omega) (by omega)
    obtain ⟨r5, e5, _, _, _⟩ := pick_ok s hs hl (p + 1 + 1 + 1 + 1) 4 (by omega) (by omega)
    obtain ⟨R, hR, hq0, hq1⟩ := opEnd s hs hl (p + 1 + 1 + 1 + 1 + 1) n 1 r2 r3 (wrap64 (1 + r4)) (wrap64 (1 + r5)) (by omega) (by omega) hn
    refine ⟨R, fun k hk => ?_, by omega, by omega⟩
    unfold spec_l20Op.f
    rw [er k (by omega), Option.bind_some, if_pos c1, e2 k (by omega), Option.bind_some, e3 k (by omega), Option.bind_some, e4 k (by omega), Option.bind_some, e5 k (by omega), Option.bind_some]
    exact hR k hk
  by_cases c7 : wrap64 (1 + r) = 7
  · obtain ⟨r2, e2, _, _, _⟩ := pick_ok s hs hl (p + 1) 6 (by omega) (by omega)
    obtain ⟨r3, e3, _, _, _⟩ := pick_ok s hs hl (p + 1 + 1) 6 (by omega) (by omega)
    obtain ⟨R, hR, hq0, hq1⟩ := opEnd s hs hl (p + 1 + 1 + 1) n 7 (wrap64 (1 + r2)) (wrap64 (1 + r3)) 0 0 (by omega) (by omega) hn
    refine ⟨R, fun k hk => ?_, by omega, by omega⟩
    unfold spec_l20Op.f
    rw [er k (by omega), Option.bind_some, if_neg c1, if_pos c7, e2 k (by omega), Option.bind_some, e3 k (by omega), Option.bind_some]
    exact hR k hk
  by_cases c8 : wrap64 (1 + r) = 8
  · obtain ⟨r2, e2, _, _, _⟩ := pick_ok s hs hl (p + 1) 256 (by omega) (by omega)
    obtain ⟨r3, e3, _, _, _⟩ := pick_ok s hs hl (p + 1 + 1) 256 (by omega) (by omega)
    obtain ⟨r4, e4, _, _, _⟩ := pick_ok s hs hl (p + 1 + 1 + 1) 256 (by omega) (by omega)
    obtain ⟨R, hR, hq0, hq1⟩ := opEnd s hs hl (p + 1 + 1 + 1 + 1) n 8 r2 r3 r4 0 (by omega) (by omega) hn
    refine ⟨R, fun k hk => ?_, by omega, by omega⟩
    unfold spec_l20Op.f
    rw [er k (by omega), Option.bind_some, if_neg c1, if_neg c7, if_pos c8, e2 k (by omega), Option.bind_some, e3 k (by omega), Option.bind_some, e4 k (by omega), Option.bind_some]
    exact hR k hk
  · obtain ⟨R, hR, hq0, hq1⟩ := opEnd s hs hl (p + 1) n (wrap64 (1 + r)) 0 0 0 0 (by omega) (by omega) hn
    refine ⟨R, fun k hk => ?_, by omega, by omega⟩
    unfold spec_l20Op.f
    rw [er k (by omega), Option.bind_some, if_neg c1, if_neg c7, if_neg c8]
    exact hR k hk
theorem foldFill : ∀ (d : Nat) (x : List S25), x.length ≤ 6 → 5 ≤ x.length + d → ∃ L, (∀ k, d < k → spec_DrawOpsFold.l1 k x = some L) ∧ L.length ≤ 6 := by
  intro d
  induction d with
  | zero =>
    intro x h1 h2
    refine ⟨x, fun k hk => ?_, h1⟩
    obtain ⟨k, rfl⟩ : ∃ m, k = m + 1 := ⟨k - 1, by omega⟩
    unfold spec_DrawOpsFold.l1
    rw [if_neg (by omega)]
  | succ d ih =>
    intro x h1 h2
    by_cases h : x.length < 5
    · obtain ⟨L, hL, hl⟩ := ih (x ++ [⟨4, 0, 0, 0, 0⟩]) (by rw [List.length_append, List.length_singleton]; omega) (by rw [List.length_append, List.length_singleton]; omega)
      refine ⟨L, fun k hk => ?_, hl⟩
      obtain ⟨k, rfl⟩ : ∃ m, k = m + 1 := ⟨k - 1, by omega⟩
      unfold spec_DrawOpsFold.l1
      rw [if_pos (by omega), if_pos (by omega)]
      exact hL k (by omega)
    · refine ⟨x, fun k hk => ?_, h1⟩
      obtain ⟨k, rfl⟩ : ∃ m, k = m + 1 := ⟨k - 1, by omega⟩
      unfold spec_DrawOpsFold.l1
      rw [if_neg (by omega)]
theorem foldJ (s : List Int) (hs : Bytes s) (hl : s.length ≤ 2000) (x : List S25) (hx : x.length ≤ 6) (p : Int) (h0 : 0 ≤ p) (h1 : p ≤ 700000) : ∃ L, (∀ k, 10 ≤ k → spec_DrawOpsFold.j1 k x s p = some L) ∧ L.length ≤ 6 := by
  obtain ⟨o, q, eo, _, _, _⟩ := odd_ok s hs hl p 9 h0 (by omega) (by omega)
  cases o with
  | false =>
    refine ⟨x, fun k hk => ?_, hx⟩
    obtain ⟨k, rfl⟩ : ∃ m, k = m + 1 := ⟨k - 1, by omega⟩
    simp only [spec_DrawOpsFold.j1]
    rw [eo k (by omega), Option.bind_some, if_neg (by simp)]
  | true =>
    obtain ⟨L, hL, hl⟩ := foldFill 5 x hx (by omega)
    refine ⟨L, fun k hk => ?_, hl⟩
    obtain ⟨k, rfl⟩ : ∃ m, k = m + 1 := ⟨k - 1, by omega⟩
    simp only [spec_DrawOpsFold.j1]
    rw [eo k (by omega), Option.bind_some, if_pos rfl]
    exact hL k (by omega)
theorem foldDraw_l (s : List Int) (hs : Bytes s) (hl : s.length ≤ 2000) : ∀ (t : Nat) (x : List S25) (p a b c d e : Int), x.length + t ≤ 5 → 0 ≤ p → p + 20 * t ≤ 600000 → ∃ L, (∀ k, t + 20 ≤ k → spec_DrawOpsFold.l0 k x (t : Int) s p a b c d e = some L) ∧ L.length ≤ 6 := by
  intro t
  induction t with
  | zero =>
    intro x p a b c d e hx h0 h1
    obtain ⟨o, q, eo, q0, q1, _⟩ := odd_ok s hs hl p 6 h0 (by omega) (by omega)
    cases o with
    | false =>
      obtain ⟨L, hL, hl'⟩ := foldJ s hs hl x (by omega) q (by omega) (by omega)
      refine ⟨L, fun k hk => ?_, hl'⟩
      obtain ⟨k, rfl⟩ : ∃ m, k = m + 1 := ⟨k - 1, by omega⟩
      simp only [spec_DrawOpsFold.l0]
      rw [if_neg (by omega), eo k (by omega), Option.bind_some, if_neg (by simp)]
      exact hL k (by omega)
    | true =>
      obtain ⟨R, hR, r0, r1⟩ := op_ok s hs hl q 1 (by omega) (by omega) (by omega)
      obtain ⟨L, hL, hl'⟩ := foldJ s hs hl (x ++ [⟨R.1, R.2.1, R.2.2.1, R.2.2.2.1, R.2.2.2.2.1⟩]) (by rw [List.length_append, List.length_singleton]; omega) R.2.2.2.2.2 (by omega) (by omega)
      refine ⟨L, fun k hk => ?_, hl'⟩
      obtain ⟨k, rfl⟩ : ∃ m, k = m + 1 := ⟨k - 1, by omega⟩
      simp only [spec_DrawOpsFold.l0]
      rw [if_neg (by omega), eo k (by omega), Option.bind_some, if_pos rfl, hR k (by omega), Option.bind_some, if_pos (by omega)]
      exact hL k (by omega)
  | succ t ih =>
    intro x p a b c d e hx h0 h1
    obtain ⟨r, er, r0, r1, _⟩ := pick_ok s hs hl p 2 h0 (by omega)
    by_cases hr : r = 0
    · obtain ⟨R, hR, q0, q1⟩ := op_ok s hs hl (p + 1) 0 (by omega) (by omega) (by omega)
      obtain ⟨L, hL, hl'⟩ := ih (x ++ [⟨R.1, R.2.1, R.2.2.1, R.2.2.2.1, R.2.2.2.2.1⟩]) R.2.2.2.2.2 R.1 R.2.1 R.2.2.1 R.2.2.2.1 R.2.2.2.2.1 (by rw [List.length_append, List.length_singleton]; omega) (by omega) (by omega)
      refine ⟨L, fun k hk => ?_, hl'⟩
      obtain ⟨k, rfl⟩ : ∃ m, k = m + 1 := ⟨k - 1, by omega⟩
      simp only [spec_DrawOpsFold.l0]
      rw [if_pos (by omega), er k (by omega), Option.bind_some, if_pos hr, hR k (by omega), Option.bind_some, if_pos (by omega), w64 (by omega) (by omega), show ((t + 1 : Nat) : Int) - 1 = (t : Int) by omega]
      exact hL k (by omega)
    · obtain ⟨L, hL, hl'⟩ := ih (x ++ [⟨a, b, c, d, e⟩]) (p + 1) a b c d e (by rw [List.length_append, List.length_singleton]; omega) (by omega) (by omega)
      refine ⟨L, fun k hk => ?_, hl'⟩
      obtain ⟨k, rfl⟩ : ∃ m, k = m + 1 := ⟨k - 1, by omega⟩
      simp only [spec_DrawOpsFold.l0]
      rw [if_pos (by omega), er k (by omega), Option.bind_some, if_neg hr, if_pos (by omega), w64 (by omega) (by omega), show ((t + 1 : Nat) : Int) - 1 = (t : Int) by omega]
      exact hL k (by omega)
theorem drawFold_ok (l : List Int) (hb : Bytes l) : ∃ L, (∀ k, 60 ≤ k → spec_DrawOpsFold.f k l = some L) ∧ L.length ≤ 6 := by
  obtain ⟨s, ho, hs, hl, _⟩ := open_ok l hb
  obtain ⟨R, hR, q0, q1⟩ := op_ok s hs hl 0 0 (by omega) (by omega) (by omega)
  obtain ⟨r, er, r0, r1, _⟩ := pick_ok s hs hl R.2.2.2.2.2 6 (by omega) (by omega)
  replace r1 := r1 (by omega)
  obtain ⟨t, rfl⟩ := Int.eq_ofNat_of_zero_le r0
  obtain ⟨L, hL, hl'⟩ := foldDraw_l s hs hl t [] (R.2.2.2.2.2 + 1) R.1 R.2.1 R.2.2.1 R.2.2.2.1 R.2.2.2.2.1 (by rw [List.length_nil]; omega) (by omega) (by omega)
  refine ⟨L, fun k hk => ?_, hl'⟩
  unfold spec_DrawOpsFold.f
  rw [ho, Option.bind_some, hR k (by omega), Option.bind_some, er k (by omega), Option.bind_some]
  exact hL k (by omega)
end Go.Proofs.Ytjkaalcocgioaaa.Pl
