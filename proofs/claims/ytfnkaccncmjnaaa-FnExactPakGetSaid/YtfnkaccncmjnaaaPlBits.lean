/- Shifts, masks and joins of small numbers, as plain sums. No condition but that the numbers are small. -/
import Derived.Test.YtfnkaccncmjnaaaPl
namespace Go.Proofs.Ytfnkaccncmjnaaa.Pl
open Go Go.RowKit Go.Proofs.YtfnkaccncmjnaaaW.PrintWords Go.Proofs.YtfnkaccncmjnaaaW.PrintLast Go.Proofs.YtfnkaccncmjnaaaW.PrintMore

theorem pow_nat (m : Nat) : ((2 : Int) ^ m) = ((2 ^ m : Nat) : Int) := by simp
theorem pow_pos' (m : Nat) : (1 : Int) ≤ 2 ^ m := by have := Nat.two_pow_pos m; rw [pow_nat]; omega
theorem pow_le' {m : Nat} (n : Nat) (h : m ≤ n) : (2 : Int) ^ m ≤ 2 ^ n := by
  have := Nat.pow_le_pow_right (show 0 < 2 by decide) h
  rw [pow_nat, pow_nat]; omega
theorem pow_succ' (m : Nat) : (2 : Int) ^ (m + 1) = 2 * 2 ^ m := by rw [Int.pow_succ]; omega
theorem shr_ok (k : IntKind) (x : Int) (m : Nat) (h : m ≤ k.bits) : shr k x (m : Int) = x / 2 ^ m := by
  unfold shr; rw [Int.toNat_natCast, Nat.min_eq_left h]
theorem shl_bit (b : Int) (m : Nat) (hb : b = 0 ∨ b = 1) (h : m ≤ 40) : shl .i64 b (m : Int) = b * 2 ^ m := by
  have h1 := pow_le' 40 h
  have h0 := pow_pos' m
  have h64 : IntKind.i64.wrap (b * 2 ^ m) = wrap64 (b * 2 ^ m) := i64_w _
  unfold shl
  rw [Int.toNat_natCast, Nat.min_eq_left (show m ≤ IntKind.bits .i64 from by have : IntKind.bits .i64 = 64 := rfl; omega), h64, w64]
  · rcases hb with rfl | rfl <;> omega
  · rcases hb with rfl | rfl <;> omega
/-- Joined by 'or' where nothing overlaps: a sum. -/
theorem or_bit (a b : Int) (m : Nat) (ha : 0 ≤ a) (ham : a < 2 ^ m) (hb : b = 0 ∨ b = 1) (h : m ≤ 40) : Go.bits .or .i64 a (b * 2 ^ m) = a + b * 2 ^ m := by
  have h1 := pow_le' 40 h
  have h0 := pow_pos' m
  obtain ⟨x, rfl⟩ := Int.eq_ofNat_of_zero_le ha
  have hx : x < 2 ^ m := by rw [pow_nat] at ham; omega
  have h2 : (2 : Nat) ^ m ≤ 2 ^ 40 := Nat.pow_le_pow_right (by decide) h
  obtain ⟨c, rfl, hc⟩ : ∃ c : Nat, b = (c : Int) ∧ c ≤ 1 := by
    rcases hb with rfl | rfl
    · exact ⟨0, rfl, by omega⟩
    · exact ⟨1, rfl, by omega⟩
  have e1 : (c : Int) * 2 ^ m = ((c * 2 ^ m : Nat) : Int) := by rw [pow_nat]; simp
  have hc2 : c * 2 ^ m ≤ 2 ^ 40 := Nat.le_trans (Nat.mul_le_mul_right _ hc) (by omega)
  have hor : x ||| (c * 2 ^ m) = x + c * 2 ^ m := by
    rw [Nat.mul_comm, Nat.or_comm, ← Nat.two_pow_add_eq_or_of_lt hx, Nat.add_comm]
  have e : Go.bits .or .i64 (x : Int) ((c * 2 ^ m : Nat) : Int) = IntKind.i64.wrap ((x + c * 2 ^ m : Nat) : Int) := by
    simp only [Go.bits, BitVec.ofInt_natCast, BitVec.toNat_or, BitVec.toNat_ofNat]
    rw [show IntKind.bits .i64 = 64 from rfl, Nat.mod_eq_of_lt (by omega), Nat.mod_eq_of_lt (by omega), hor]
  have h64 : IntKind.i64.wrap ((x + c * 2 ^ m : Nat) : Int) = wrap64 ((x + c * 2 ^ m : Nat) : Int) := i64_w _
  rw [e1, e, h64, w64 (by omega) (by omega)]
  omega
theorem and_one (a : Int) (h0 : 0 ≤ a) (h1 : a ≤ 255) : Go.bits .and .u8 a 1 = a % 2 := by
  obtain ⟨x, rfl⟩ := Int.eq_ofNat_of_zero_le h0
  have e : Go.bits .and .u8 (x : Int) 1 = IntKind.u8.wrap ((x % 2 : Nat) : Int) := by
    have h1' : (1 : Int) = ((1 : Nat) : Int) := rfl
    rw [h1']
    simp only [Go.bits, BitVec.ofInt_natCast, BitVec.toNat_and, BitVec.toNat_ofNat]
    rw [show IntKind.bits .u8 = 8 from rfl, Nat.mod_eq_of_lt (by omega), show 1 % 2 ^ 8 = 1 from rfl, Nat.and_one_is_mod]
  rw [e]
  have : x % 2 = 0 ∨ x % 2 = 1 := by omega
  rcases this with h | h <;> rw [h]
  · rw [show ((x : Nat) : Int) % 2 = 0 by omega]; rfl
  · rw [show ((x : Nat) : Int) % 2 = 1 by omega]; rfl
/-- Bit j of bytes. -/
def bitAt (s : List Int) (j : Nat) : Int := s.getD (j / 8) 0 / 2 ^ (j % 8) % 2
/-- The number of n bits from bit a on. -/
def bitSum (s : List Int) (a : Nat) : Nat → Int
  | 0 => 0
  | n + 1 => bitSum s a n + bitAt s (a + n) * 2 ^ n
theorem bitAt_01 (s : List Int) (j : Nat) : bitAt s j = 0 ∨ bitAt s j = 1 := by unfold bitAt; omega
theorem bitSum_lt (s : List Int) (a n : Nat) : 0 ≤ bitSum s a n ∧ bitSum s a n < 2 ^ n := by
  induction n with
  | zero => exact ⟨Int.le_refl _, show (0 : Int) < 2 ^ 0 by decide⟩
  | succ n ih =>
    have h0 := pow_pos' n
    simp only [bitSum]
    rw [pow_succ']
    rcases bitAt_01 s (a + n) with h | h <;> rw [h] <;> omega
theorem bitSum_add (s : List Int) (a m n : Nat) : bitSum s a (m + n) = bitSum s a m + bitSum s (a + m) n * 2 ^ m := by
  induction n with
  | zero => simp [bitSum]
  | succ n ih =>
    rw [← Nat.add_assoc]
    simp only [bitSum]
    rw [ih, Int.add_mul, Int.pow_add, show a + (m + n) = a + m + n by omega, Int.mul_assoc, Int.mul_comm (2 ^ n) (2 ^ m), Int.add_assoc]
/-- A bit's place is within the bytes. -/
theorem bit_place (a : Nat) (ha : (a : Int) ≤ 4611686018427387904) : wrap64 (Int.tdiv (a : Int) 8) = ((a / 8 : Nat) : Int) ∧ Int.tmod (a : Int) 8 = ((a % 8 : Nat) : Int) := by
  rw [Int.tdiv_eq_ediv_of_nonneg (by omega), Int.tmod_eq_emod_of_nonneg (by omega), w64 (by omega) (by omega)]
  exact ⟨by omega, by omega⟩
theorem getD_byte {s : List Int} (hs : Bytes s) (i : Nat) : Byte (s.getD i 0) := by rw [← rd_nat]; exact rd_byte hs _
theorem div_byte {x : Int} (h : Byte x) (m : Nat) : Byte (x / 2 ^ m) := by
  have h0 := pow_pos' m
  refine ⟨Int.ediv_nonneg h.1 (by omega), ?_⟩
  have := Int.ediv_le_self (2 ^ m) h.1
  have := h.2
  omega
/-- The bit as the reader takes it. -/
theorem bit_read {s : List Int} (hs : Bytes s) (a : Nat) : wrap64 (Go.bits .and .u8 (shr .u8 (rd s ((a / 8 : Nat) : Int)) ((a % 8 : Nat) : Int)) 1) = bitAt s a := by
  have hb := div_byte (getD_byte hs (a / 8)) (a % 8)
  rw [shr_ok _ _ _ (show a % 8 ≤ 8 by omega), rd_nat, and_one _ hb.1 hb.2]
  unfold bitAt
  exact w64 (by omega) (by omega)
/-- The bit as the reference takes it. -/
theorem bit_read' {s : List Int} (hs : Bytes s) (a : Nat) : Int.tmod (shr .i64 (wrap64 (rd s ((a / 8 : Nat) : Int))) ((a % 8 : Nat) : Int)) 2 = bitAt s a := by
  have hb := div_byte (getD_byte hs (a / 8)) (a % 8)
  obtain ⟨h0, h1⟩ := getD_byte hs (a / 8)
  rw [rd_nat, w64 (by omega) (by omega), shr_ok _ _ _ (show a % 8 ≤ 64 by omega), Int.tmod_eq_emod_of_nonneg hb.1]
  rfl
end Go.Proofs.Ytfnkaccncmjnaaa.Pl
