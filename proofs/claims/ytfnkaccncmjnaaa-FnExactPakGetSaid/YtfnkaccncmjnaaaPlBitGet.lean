/- What the program's and the reference's reading of bits come to: the sum of the bits, where they are asked for and lie there. The bytes are bytes, no more than 2^40. -/
import Derived.Test.YtfnkaccncmjnaaaPlIn
import Derived.Test.YtfnkaccncmjnaaaPlBits
import Derived.Test.YtfnkaccncmjnaaaX0
import Derived.Test.YtfnkaccncmjnaaaX27
import Derived.Test.YtfnkaccncmjnaaaX28
import Derived.Test.YtfnkaccncmjnaaaX34
namespace Go.Proofs.Ytfnkaccncmjnaaa.Pl
open Go Go.RowKit Go.Proofs.Ytfnkaccncmjnaaa.X Go.Proofs.YtfnkaccncmjnaaaW.PrintWords Go.Proofs.YtfnkaccncmjnaaaW.PrintLast Go.Proofs.YtfnkaccncmjnaaaW.PrintMore

def GetP (s : List Int) (a n : Int) : Prop := 0 ≤ a ∧ 1 ≤ n ∧ n ≤ 12 ∧ a + n ≤ 8 * (s.length : Int)
instance (s : List Int) (a n : Int) : Decidable (GetP s a n) := by unfold GetP; infer_instance
def getR (s : List Int) (a n : Int) : Int × Bool := if GetP s a n then (bitSum s a.toNat n.toNat, true) else (0, false)
theorem implGet_l (s : List Int) (hs : Bytes s) (hl : s.length ≤ 1099511627776) (a n : Nat) (hn : n ≤ 12) (han : a + n ≤ 8 * s.length) : ∀ (d i k : Nat), i + d = n → d < k →
    impl_bitReader_get.l0 k (bitSum s a i) (n : Int) (i : Int) s ((a + i : Nat) : Int) false = some (bitSum s a n, ((a + n : Nat) : Int), false) := by
  intro d
  induction d with
  | zero =>
    intro i k hi hk
    obtain ⟨k, rfl⟩ : ∃ m, k = m + 1 := ⟨k - 1, by omega⟩
    obtain rfl : i = n := by omega
    simp only [impl_bitReader_get.l0]
    rw [if_neg (by omega)]
  | succ d ih =>
    intro i k hi hk
    obtain ⟨k, rfl⟩ : ∃ m, k = m + 1 := ⟨k - 1, by omega⟩
    obtain ⟨hq, hr⟩ := bit_place (a + i) (by omega)
    have hlt := bitSum_lt s a i
    simp only [impl_bitReader_get.l0]
    rw [hq, hr, if_pos (by omega), if_pos (by omega), if_pos (by omega), if_pos (by omega), if_pos (by omega), bit_read hs, shl_bit _ _ (bitAt_01 _ _) (by omega), or_bit _ _ _ hlt.1 hlt.2 (bitAt_01 _ _) (by omega), w64 (by omega) (by omega), w64 (by omega) (by omega)]
    exact ih (i + 1) k (by omega) (by omega)
theorem implGet_ok (s : List Int) (hs : Bytes s) (hl : s.length ≤ 1099511627776) (a n : Int) (ha : a ≤ 9223372036854775807) (k : Nat) (hk : 14 ≤ k) : impl_BitGet.f k s a n = some (getR s a n) := by
  obtain ⟨k, rfl⟩ : ∃ m, k = m + 1 := ⟨k - 1, by omega⟩
  unfold impl_BitGet.f impl_bitReader_get.f getR
  rw [if_neg (by decide)]
  by_cases h1 : a < 0
  · rw [if_pos h1, if_neg (fun h => by have := h.1; omega)]; simp [impl_bitReader_get.j0]
  rw [if_neg h1]
  by_cases h2 : n < 1
  · rw [if_pos h2, if_neg (fun h => by have := h.2.1; omega)]; simp [impl_bitReader_get.j0]
  rw [if_neg h2]
  by_cases h3 : n > 12
  · rw [if_pos h3, if_neg (fun h => by have := h.2.2.1; omega)]; simp [impl_bitReader_get.j0]
  rw [if_neg h3, w64 (x := 8 * (s.length : Int)) (by omega) (by omega), w64 (by omega) (by omega)]
  by_cases h4 : 8 * (s.length : Int) - a < n
  · rw [decide_eq_true h4, if_neg (fun h => by have := h.2.2.2; omega)]; simp [impl_bitReader_get.j0]
  rw [decide_eq_false h4, if_pos ⟨by omega, by omega, by omega, by omega⟩]
  obtain ⟨a, rfl⟩ := Int.eq_ofNat_of_zero_le (show 0 ≤ a by omega)
  obtain ⟨n, rfl⟩ := Int.eq_ofNat_of_zero_le (show 0 ≤ n by omega)
  simp only [impl_bitReader_get.j0]
  rw [if_neg (by decide)]
  have := implGet_l s hs hl a n (by omega) (by omega) n 0 k (by omega) (by omega)
  rw [show bitSum s a 0 = 0 from rfl, show ((a + 0 : Nat) : Int) = (a : Int) by simp, show ((0 : Nat) : Int) = 0 from rfl] at this
  rw [this]; rfl
theorem specGet_l (s : List Int) (hs : Bytes s) (hl : s.length ≤ 1099511627776) (a n : Nat) (hn : n ≤ 12) (han : a + n ≤ 8 * s.length) : ∀ (d i k : Nat), i + d = n → d < k →
    spec_BitGet.l0 k s (a : Int) (n : Int) (bitSum s a i) (i : Int) = some (bitSum s a n, true) := by
  intro d
  induction d with
  | zero =>
    intro i k hi hk
    obtain ⟨k, rfl⟩ : ∃ m, k = m + 1 := ⟨k - 1, by omega⟩
    obtain rfl : i = n := by omega
    simp only [spec_BitGet.l0]
    rw [if_neg (by omega)]
  | succ d ih =>
    intro i k hi hk
    obtain ⟨k, rfl⟩ : ∃ m, k = m + 1 := ⟨k - 1, by omega⟩
    obtain ⟨hq, hr⟩ := bit_place (a + i) (by omega)
    have hlt := bitSum_lt s a i
    have hlt' := bitSum_lt s a (i + 1)
    have hp := pow_le' 12 (show i + 1 ≤ 12 by omega)
    have e12 : (2 : Int) ^ 12 = 4096 := by decide
    simp only [spec_BitGet.l0]
    rw [w64 (x := (a : Int) + (i : Int)) (by omega) (by omega), show (a : Int) + (i : Int) = ((a + i : Nat) : Int) by omega, hq, hr, if_pos (by omega), if_pos (by omega), if_pos (by omega), if_pos (by omega), if_pos (by omega), bit_read' hs, shl_bit _ _ (bitAt_01 _ _) (by omega), show bitSum s a i + bitAt s (a + i) * 2 ^ i = bitSum s a (i + 1) from rfl, w64 (by omega) (by omega), w64 (by omega) (by omega)]
    exact ih (i + 1) k (by omega) (by omega)
theorem specGet_ok (s : List Int) (hs : Bytes s) (hl : s.length ≤ 1099511627776) (a n : Int) (k : Nat) (hk : 14 ≤ k) : spec_BitGet.f k s a n = some (getR s a n) := by
  obtain ⟨k, rfl⟩ : ∃ m, k = m + 1 := ⟨k - 1, by omega⟩
  unfold spec_BitGet.f getR
  by_cases h1 : a < 0
  · rw [if_pos h1, if_neg (fun h => by have := h.1; omega)]; simp [spec_BitGet.j0]
  rw [if_neg h1, l1In_ok, Option.bind_some]
  by_cases h2 : 1 ≤ n ∧ n ≤ 12
  · rw [decide_eq_true h2, if_pos rfl, w64 (x := 8 * (s.length : Int)) (by omega) (by omega), w64 (by omega) (by omega)]
    by_cases h4 : a > 8 * (s.length : Int) - n
    · rw [decide_eq_true h4, if_neg (fun h => by have := h.2.2.2; omega)]; simp [spec_BitGet.j0]
    rw [decide_eq_false h4, if_pos ⟨by omega, by omega, by omega, by omega⟩]
    obtain ⟨a, rfl⟩ := Int.eq_ofNat_of_zero_le (show 0 ≤ a by omega)
    obtain ⟨n, rfl⟩ := Int.eq_ofNat_of_zero_le (show 0 ≤ n by omega)
    simp only [spec_BitGet.j0]
    rw [if_neg (by decide)]
    exact specGet_l s hs hl a n (by omega) (by omega) n 0 k (by omega) (by omega)
  · rw [decide_eq_false h2, if_neg (by decide), if_neg (fun h => h2 ⟨h.2.1, h.2.2.1⟩)]; simp [spec_BitGet.j0]
end Go.Proofs.Ytfnkaccncmjnaaa.Pl
