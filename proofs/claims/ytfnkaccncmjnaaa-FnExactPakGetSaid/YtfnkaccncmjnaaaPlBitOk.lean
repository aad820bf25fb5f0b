/- What the program's and the reference's tests of a number of bits come to: 1 to 12 bits, and a number below that power of two. No condition. -/
import Derived.Test.YtfnkaccncmjnaaaPlIn
import Derived.Test.YtfnkaccncmjnaaaX0
import Derived.Test.YtfnkaccncmjnaaaX3
import Derived.Test.YtfnkaccncmjnaaaX7
namespace Go.Proofs.Ytfnkaccncmjnaaa.Pl
open Go Go.RowKit Go.Proofs.Ytfnkaccncmjnaaa.X Go.Proofs.YtfnkaccncmjnaaaW.PrintWords Go.Proofs.YtfnkaccncmjnaaaW.PrintLast Go.Proofs.YtfnkaccncmjnaaaW.PrintMore
def BitP (n b : Int) : Prop := 1 ≤ b ∧ b ≤ 12 ∧ 0 ≤ n ∧ n < 2 ^ b.toNat
instance (n b : Int) : Decidable (BitP n b) := by unfold BitP; infer_instance
theorem pow_cast (m : Nat) : ((2 : Int) ^ m) = ((2 ^ m : Nat) : Int) := by simp
theorem pow_le {b : Int} (h0 : 0 ≤ b) (h1 : b ≤ 12) : (1 : Int) ≤ 2 ^ b.toNat ∧ (2 : Int) ^ b.toNat ≤ 4096 := by
  obtain ⟨m, rfl⟩ := Int.eq_ofNat_of_zero_le h0
  have hm : m ≤ 12 := by omega
  rw [Int.toNat_natCast, pow_cast]
  have h2 : 2 ^ m ≤ 4096 := Nat.le_trans (Nat.pow_le_pow_right (by decide) hm) (by decide)
  have h3 : 0 < 2 ^ m := Nat.two_pow_pos m
  omega
theorem shl_one {b : Int} (h0 : 0 ≤ b) (h1 : b ≤ 12) : shl .i64 1 b = 2 ^ b.toNat := by
  have h := pow_le h0 h1
  unfold shl
  have : min b.toNat (IntKind.bits .i64) = b.toNat := by
    have : IntKind.bits .i64 = 64 := rfl
    omega
  rw [this, Int.one_mul]
  have h64 : IntKind.i64.wrap (2 ^ b.toNat) = wrap64 (2 ^ b.toNat) := i64_w _
  rw [h64, w64 (by omega) (by omega)]
theorem bit_no {n b : Int} (h : ¬ BitP n b) : some false = some (decide (BitP n b)) := by rw [decide_eq_false h]
theorem bit_iff {p : Prop} [Decidable p] {n b : Int} (h : p ↔ BitP n b) : some (decide p) = some (decide (BitP n b)) := by rw [decide_eq_decide.mpr h]
theorem implBitOk_ok (n b : Int) : impl_BitOk.f n b = some (decide (BitP n b)) := by
  unfold impl_BitOk.f
  by_cases h1 : b ≥ 1
  · rw [if_pos h1]
    by_cases h2 : b ≤ 12
    · rw [if_pos h2]
      by_cases h3 : n ≥ 0
      · rw [if_pos h3, if_pos (by omega), shl_one (by omega) h2]
        exact bit_iff ⟨fun h => ⟨h1, h2, h3, h⟩, fun h => h.2.2.2⟩
      · rw [if_neg h3]; exact bit_no (fun h => h3 h.2.2.1)
    · rw [if_neg h2]; exact bit_no (fun h => h2 h.2.1)
  · rw [if_neg h1]; exact bit_no (fun h => h1 h.1)
theorem specBitOk_ok (n b : Int) : spec_BitOk.f n b = some (decide (BitP n b)) := by
  unfold spec_BitOk.f
  simp only [l1In_ok, Option.bind_some]
  by_cases h1 : 1 ≤ b ∧ b ≤ 12
  · have hp := pow_le (show 0 ≤ b by omega) h1.2
    rw [decide_eq_true h1, if_pos rfl, if_pos (by omega), shl_one (by omega) h1.2, w64 (by omega) (by omega)]
    exact bit_iff ⟨fun h => ⟨h1.1, h1.2, h.1, by have := h.2; omega⟩, fun h => ⟨h.2.2.1, by have := h.2.2.2; omega⟩⟩
  · rw [decide_eq_false h1, if_neg (by decide)]; exact bit_no (fun h => h1 ⟨h.1, h.2.1⟩)
end Go.Proofs.Ytfnkaccncmjnaaa.Pl
