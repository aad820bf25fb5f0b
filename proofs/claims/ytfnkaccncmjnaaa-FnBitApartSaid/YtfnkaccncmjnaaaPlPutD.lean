/- What is drawn as numbers to be laid into bytes: no more than 400. The code is bytes. -/
import Derived.Test.YtfnkaccncmjnaaaPlNum
import Derived.Test.YtfnkaccncmjnaaaX0
import Derived.Test.YtfnkaccncmjnaaaX22
namespace Go.Proofs.Ytfnkaccncmjnaaa.Pl
open Go Go.RowKit Go.Proofs.Ytfnkaccncmjnaaa.X Go.Proofs.YtfnkaccncmjnaaaW.PrintWords Go.Proofs.YtfnkaccncmjnaaaW.PrintLast Go.Proofs.YtfnkaccncmjnaaaW.PrintMore
theorem drawPut_l1 : ∀ (d : Nat) (x : List S36), x.length + d = 300 → ∃ y, (∀ k, d < k → spec_DrawBitPut.l1 k x = some y) ∧ y.length = 300 := by
  intro d
  induction d with
  | zero =>
    intro x hd
    refine ⟨x, fun k hk => ?_, by omega⟩
    obtain ⟨k, rfl⟩ : ∃ q, k = q + 1 := ⟨k - 1, by omega⟩
    unfold spec_DrawBitPut.l1
    rw [if_neg (by omega)]
  | succ d ih =>
    intro x hd
    obtain ⟨y, hy, hyl⟩ := ih (x ++ [⟨1, 12⟩]) (by rw [List.length_append, List.length_singleton]; omega)
    refine ⟨y, fun k hk => ?_, hyl⟩
    obtain ⟨k, rfl⟩ : ∃ q, k = q + 1 := ⟨k - 1, by omega⟩
    unfold spec_DrawBitPut.l1
    rw [if_pos (by omega), if_pos (by omega)]
    exact hy k (by omega)
theorem drawPut_j1 (s : List Int) (hs : Bytes s) (hl : s.length ≤ 2000) (x : List S36) (hx : x.length ≤ 100) (p : Int) (h0 : 0 ≤ p) (h1 : p ≤ 900000) :
    ∃ y, (∀ k, 400 ≤ k → spec_DrawBitPut.j1 k x s p = some y) ∧ y.length ≤ 300 := by
  obtain ⟨b, q, ho, _⟩ := odd_ok s hs hl p 20 h0 (by omega) (by omega)
  have hf (k : Nat) (hk : 399 ≤ k) : spec_DrawBitPut.j1 (k + 1) x s p = if b = true then spec_DrawBitPut.l1 k x else some x := by
    simp only [spec_DrawBitPut.j1]
    rw [ho k (by omega), Option.bind_some]
  have hf' (k : Nat) (hk : 400 ≤ k) : spec_DrawBitPut.j1 k x s p = if b = true then spec_DrawBitPut.l1 (k - 1) x else some x := by
    have := hf (k - 1) (by omega)
    rwa [show k - 1 + 1 = k by omega] at this
  cases b with
  | false => exact ⟨x, fun k hk => (hf' k hk).trans rfl, by omega⟩
  | true =>
    obtain ⟨y, hy, hyl⟩ := drawPut_l1 (300 - x.length) x (by omega)
    exact ⟨y, fun k hk => (hf' k hk).trans ((if_pos rfl).trans (hy (k - 1) (by omega))), by omega⟩
theorem drawPut_l (s : List Int) (hs : Bytes s) (hl : s.length ≤ 2000) : ∀ (d : Nat) (x : List S36) (p : Int), x.length + d ≤ 90 → 0 ≤ p → p + 6 * d ≤ 100000 →
    ∃ y, (∀ k, 500 + d ≤ k → spec_DrawBitPut.l0 k x (d : Int) s p = some y) ∧ y.length ≤ 300 := by
  intro d
  induction d with
  | zero =>
    intro x p hx h0 h1
    obtain ⟨b, q, ho, hq0, hq1, _⟩ := odd_ok s hs hl p 6 h0 (by omega) (by omega)
    obtain ⟨n, m, q2, hn, hq2, hq3, _⟩ := num_ok s hs hl q 1 (by omega) (by omega) (by omega)
    have hf (k : Nat) (hk : 500 ≤ k) : spec_DrawBitPut.l0 k x ((0 : Nat) : Int) s p = if b = true then spec_DrawBitPut.j1 (k - 1) (x ++ [⟨n, m⟩]) s q2 else spec_DrawBitPut.j1 (k - 1) x s q := by
      obtain ⟨k, rfl⟩ : ∃ q, k = q + 1 := ⟨k - 1, by omega⟩
      simp only [spec_DrawBitPut.l0]
      rw [if_neg (by omega), ho k (by omega), Option.bind_some]
      cases b with
      | false => rfl
      | true =>
        rw [if_pos rfl, if_pos rfl, hn k (by omega), Option.bind_some, if_pos (by omega)]
        rfl
    cases b with
    | false =>
      obtain ⟨y, hy, hyl⟩ := drawPut_j1 s hs hl x (by omega) q (by omega) (by omega)
      exact ⟨y, fun k hk => (hf k (by omega)).trans ((if_neg (by decide)).trans (hy _ (by omega))), hyl⟩
    | true =>
      obtain ⟨y, hy, hyl⟩ := drawPut_j1 s hs hl (x ++ [⟨n, m⟩]) (by rw [List.length_append, List.length_singleton]; omega) q2 (by omega) (by omega)
      exact ⟨y, fun k hk => (hf k (by omega)).trans ((if_pos rfl).trans (hy _ (by omega))), hyl⟩
  | succ d ih =>
    intro x p hx h0 h1
    obtain ⟨n, m, q2, hn, hq2, hq3, _⟩ := num_ok s hs hl p 0 h0 (by omega) (by omega)
    obtain ⟨y, hy, hyl⟩ := ih (x ++ [⟨n, m⟩]) q2 (by rw [List.length_append, List.length_singleton]; omega) (by omega) (by omega)
    refine ⟨y, fun k hk => ?_, hyl⟩
    obtain ⟨k, rfl⟩ : ∃ q, k = q + 1 := ⟨k - 1, by omega⟩
    simp only [spec_DrawBitPut.l0]
    rw [if_pos (by omega), hn k (by omega), Option.bind_some, if_pos (by omega), w64 (by omega) (by omega), show (((d + 1 : Nat) : Int) - 1) = (d : Int) by omega]
    exact hy k (by omega)
theorem drawPut_ok (l : List Int) (hb : Bytes l) : ∃ xs, (∀ k, 600 ≤ k → spec_DrawBitPut.f k l = some xs) ∧ xs.length ≤ 300 := by
  obtain ⟨c, ho, hc, hl, _⟩ := open_ok l hb
  obtain ⟨r, hr, hr0, hr1, _⟩ := pick_ok c hc hl 0 20 (by omega) (by omega)
  have hr1 := hr1 (by omega)
  obtain ⟨m, rfl⟩ := Int.eq_ofNat_of_zero_le hr0
  obtain ⟨y, hy, hyl⟩ := drawPut_l c hc hl m [] (0 + 1) (by simp; omega) (by omega) (by omega)
  refine ⟨y, fun k hk => ?_, hyl⟩
  unfold spec_DrawBitPut.f
  rw [ho, Option.bind_some, hr k (by omega), Option.bind_some]
  exact hy k (by omega)
end Go.Proofs.Ytfnkaccncmjnaaa.Pl
