/- The program's BitGet is the reference's, and reads in two parts what it reads in one, whatever is drawn: the pure statement of the law FnBitGet. No condition. -/
import Derived.Test.YtcoiglbkeebccabPlNum
import Derived.Test.YtcoiglbkeebccabPlBytesD
import Derived.Test.YtcoiglbkeebccabPlBitGet
import Derived.Test.YtcoiglbkeebccabPlEaOk
import Derived.Test.YtcoiglbkeebccabX0
import Derived.Test.YtcoiglbkeebccabX7
import Derived.Test.YtcoiglbkeebccabX8
namespace Go.Proofs.Ytcoiglbkeebccab.Pure
open Go Go.RowKit Go.Proofs.Ytcoiglbkeebccab.X Go.Proofs.Ytcoiglbkeebccab.Pl Go.Proofs.YtcoiglbkeebccabW.PrintWords Go.Proofs.YtcoiglbkeebccabW.PrintLast Go.Proofs.YtcoiglbkeebccabW.PrintMore
theorem drawBitGet_ok (l : List Int) (hb : Bytes l) : ∃ s a n, (∀ k, 20 ≤ k → spec_DrawBitGet.f k l = some (s, a, n)) ∧ Bytes s ∧ (s.length : Int) ≤ 12 ∧ a ≤ 9223372036854775807 := by
  obtain ⟨c, ho, hc, hl, _⟩ := open_ok l hb
  obtain ⟨s, q, hs, hsb, hsl, hq0, hq1⟩ := bytes_ok c hc hl 0 12 (by omega) (by omega) (by omega) (by omega)
  obtain ⟨x, hx, hx0, hx1, _⟩ := pick_ok c hc hl q (8 * (s.length : Int) + 1) (by omega) (by omega)
  obtain ⟨i, hi, hi0, hi1, _⟩ := pick_ok c hc hl (q + 1) 7 (by omega) (by omega)
  obtain ⟨y, hy, hy0, hy1, _⟩ := pick_ok c hc hl (q + 1 + 1) 12 (by omega) (by omega)
  obtain ⟨j, hj, hj0, hj1, _⟩ := pick_ok c hc hl (q + 1 + 1 + 1) 8 (by omega) (by omega)
  have hx1 := hx1 (by omega)
  have hi1 := hi1 (by omega)
  have hy1 := hy1 (by omega)
  have hj1 := hj1 (by omega)
  have hi2 : (0 : Int) ≤ rd [0, 0, 0, 0, 1, 2, 3] i ∧ rd [0, 0, 0, 0, 1, 2, 3] i < 4 := rd_all (P := fun z => (0 : Int) ≤ z ∧ z < 4) (by simp) hi0 (by simpa using hi1)
  have hj2 : (0 : Int) ≤ rd [0, 0, 0, 0, 0, 1, 2, 3] j ∧ rd [0, 0, 0, 0, 0, 1, 2, 3] j < 4 := rd_all (P := fun z => (0 : Int) ≤ z ∧ z < 4) (by simp) hj0 (by simpa using hj1)
  have hw : wrap64 (8 * (s.length : Int)) = 8 * (s.length : Int) := w64 (by omega) (by omega)
  refine ⟨s, rd [x, -1, 9223372036854775807, 8 * (s.length : Int)] (rd [0, 0, 0, 0, 1, 2, 3] i), rd [wrap64 (1 + y), 0, 13, -1] (rd [0, 0, 0, 0, 0, 1, 2, 3] j), fun k hk => ?_, hsb, hsl, ?_⟩
  · unfold spec_DrawBitGet.f
    rw [ho]
    repeat rw [Option.bind_some]
    try dsimp only
    rw [hs k (by omega)]
    repeat rw [Option.bind_some]
    try dsimp only
    rw [hw, w64 (x := 8 * (s.length : Int) + 1) (by omega) (by omega), hx k (by omega)]
    repeat rw [Option.bind_some]
    try dsimp only
    rw [hi k (by omega)]
    repeat rw [Option.bind_some]
    try dsimp only
    rw [if_pos hi0, if_pos (by simpa using hi1), if_pos hi2.1, if_pos (by simpa using hi2.2), hy k (by omega)]
    repeat rw [Option.bind_some]
    try dsimp only
    rw [hj k (by omega)]
    repeat rw [Option.bind_some]
    try dsimp only
    rw [if_pos hj0, if_pos (by simpa using hj1), if_pos hj2.1, if_pos (by simpa using hj2.2)]
  · refine rd_all (P := fun z => z ≤ 9223372036854775807) ?_ hi2.1 (by simpa using hi2.2)
    intro z hz
    simp only [List.mem_cons, List.not_mem_nil, or_false] at hz
    rcases hz with rfl | rfl | rfl | rfl <;> omega
theorem part_l (s : List Int) (hs : Bytes s) (hl : (s.length : Int) ≤ 12) (a n : Int) (hp : GetP s a n) : ∀ (d i k : Nat), 1 ≤ i → (i : Int) + d = n → d + 20 < k →
    laws_FnBitGet.l0 k s a n (bitSum s a.toNat n.toNat) (i : Int) = some true := by
  intro d
  induction d with
  | zero =>
    intro i k hi hd hk
    obtain ⟨k, rfl⟩ : ∃ m, k = m + 1 := ⟨k - 1, by omega⟩
    simp only [laws_FnBitGet.l0]
    rw [if_neg (by omega)]
  | succ d ih =>
    intro i k hi hd hk
    obtain ⟨k, rfl⟩ : ∃ m, k = m + 1 := ⟨k - 1, by omega⟩
    obtain ⟨h1, h2, h3, h4⟩ := id hp
    have g1 : GetP s a i := ⟨h1, by omega, by omega, by omega⟩
    have g2 : GetP s (a + i) (n - i) := ⟨by omega, by omega, by omega, by omega⟩
    simp only [laws_FnBitGet.l0]
    rw [if_pos (by omega), implGet_ok s hs (by omega) a i (by omega) k (by omega), w64 (x := a + i) (by omega) (by omega), w64 (x := n - i) (by omega) (by omega)]
    simp only [Option.bind_some]
    rw [implGet_ok s hs (by omega) _ _ (by omega) k (by omega)]
    simp only [Option.bind_some]
    unfold getR
    rw [if_pos g1, if_pos g2]
    simp only [if_true]
    rw [if_pos (by omega)]
    have hlt := bitSum_lt s (a + i).toNat (n - i).toNat
    have hlt0 := bitSum_lt s a.toNat i
    have hlt1 := bitSum_lt s a.toNat n.toNat
    have e := bitSum_add s a.toNat i (n - i).toNat
    rw [show i + (n - i).toNat = n.toNat by omega, show a.toNat + i = (a + i).toNat by omega] at e
    have hp12 := pow_le' 12 (show n.toNat ≤ 12 by omega)
    have e12 : (2 : Int) ^ 12 = 4096 := by decide
    have hnn : 0 ≤ bitSum s (a + i).toNat (n - i).toNat * 2 ^ i := Int.mul_nonneg hlt.1 (by have := pow_pos' i; omega)
    have hsh : shl .i64 (bitSum s (a + i).toNat (n - i).toNat) (i : Int) = bitSum s (a + i).toNat (n - i).toNat * 2 ^ i := by
      unfold shl
      rw [Int.toNat_natCast, Nat.min_eq_left (show i ≤ IntKind.bits .i64 from by have : IntKind.bits .i64 = 64 := rfl; omega)]
      have h64 : ∀ z, IntKind.i64.wrap z = wrap64 z := i64_w
      rw [h64, w64 (by omega) (by omega)]
    rw [hsh, Int.toNat_natCast, ← e, w64 (by omega) (by omega), if_pos rfl, w64 (by omega) (by omega)]
    exact ih (i + 1) k (by omega) (by omega) (by omega)
theorem FnBitGet : laws_FnBitGet.Pure := by
  intro l _ hl hb
  obtain ⟨s, a, n, hd, hs, hsl, ha⟩ := drawBitGet_ok l (bytes_wf hb)
  refine ⟨41, ?_⟩
  unfold laws_FnBitGet.f
  by_cases h : (l.length : Int) > 1048576
  · rw [if_pos h]
  rw [if_neg h, hd 41 (by omega)]
  simp only [Option.bind_some]
  rw [implGet_ok s hs (by omega) a n ha 41 (by omega)]
  simp only [Option.bind_some]
  rw [specGet_ok s hs (by omega) a n 41 (by omega)]
  simp only [Option.bind_some]
  rw [if_pos trivial]
  simp only [laws_FnBitGet.j0]
  rw [if_neg (by simp)]
  unfold getR
  by_cases hp : GetP s a n
  · rw [if_pos hp]
    obtain ⟨h1, h2, h3, h4⟩ := id hp
    simp only [if_true]
    rw [implBitOk_ok]
    simp only [Option.bind_some]
    have hlt := bitSum_lt s a.toNat n.toNat
    rw [if_pos (decide_eq_true (show BitP _ n from ⟨h2, h3, hlt.1, hlt.2⟩))]
    exact part_l s hs hsl a n hp (n - 1).toNat 1 40 (by omega) (by omega) (by omega)
  · rw [if_neg hp]
    simp only [eaOk_ok]
    rfl
end Go.Proofs.Ytcoiglbkeebccab.Pure
