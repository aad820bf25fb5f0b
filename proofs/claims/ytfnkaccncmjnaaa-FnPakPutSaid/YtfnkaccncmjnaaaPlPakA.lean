/- Plain laws of bits, of packing and unpacking, and of what is drawn, in one text. No condition but what each states. -/
import Derived.Test.YtfnkaccncmjnaaaVWGuardInvWordsMore
import Derived.Test.YtfnkaccncmjnaaaX0
import Derived.Test.YtfnkaccncmjnaaaX2
import Derived.Test.YtfnkaccncmjnaaaX3
import Derived.Test.YtfnkaccncmjnaaaX4
import Derived.Test.YtfnkaccncmjnaaaX7
import Derived.Test.YtfnkaccncmjnaaaX10
import Derived.Test.YtfnkaccncmjnaaaX18
import Derived.Test.YtfnkaccncmjnaaaX19
import Derived.Test.YtfnkaccncmjnaaaX20
import Derived.Test.YtfnkaccncmjnaaaX23
import Derived.Test.YtfnkaccncmjnaaaX24
import Derived.Test.YtfnkaccncmjnaaaX25
import Derived.Test.YtfnkaccncmjnaaaX26
import Derived.Test.YtfnkaccncmjnaaaX27
import Derived.Test.YtfnkaccncmjnaaaX28
import Derived.Test.YtfnkaccncmjnaaaX31
import Derived.Test.YtfnkaccncmjnaaaX34
import Derived.Test.YtfnkaccncmjnaaaX35
import Derived.Test.YtfnkaccncmjnaaaX36
import Derived.Test.YtfnkaccncmjnaaaX37
import Derived.Test.YtfnkaccncmjnaaaX40
import Derived.Test.YtfnkaccncmjnaaaX41
import Derived.Test.YtfnkaccncmjnaaaX43
import Derived.Test.YtfnkaccncmjnaaaX44
import Derived.Test.YtfnkaccncmjnaaaX45
import Derived.Test.YtfnkaccncmjnaaaX49
import Derived.Test.YtfnkaccncmjnaaaX51
import Derived.Test.YtfnkaccncmjnaaaX52
import Derived.Test.YtfnkaccncmjnaaaX53
import Derived.Test.YtfnkaccncmjnaaaX54
import Derived.Test.YtfnkaccncmjnaaaX55
import Derived.Test.YtfnkaccncmjnaaaX56
import Derived.Test.YtfnkaccncmjnaaaX57
import Derived.Test.YtfnkaccncmjnaaaX61
import Derived.Test.YtfnkaccncmjnaaaX62
namespace Go.Proofs.Ytfnkaccncmjnaaa.Pl
open Go Go.RowKit Go.Proofs.YtfnkaccncmjnaaaW.PrintWords Go.Proofs.YtfnkaccncmjnaaaW.PrintLast Go.Proofs.YtfnkaccncmjnaaaW.PrintMore

theorem w64 {x : Int} (h0 : -9223372036854775808 ≤ x) (h1 : x ≤ 9223372036854775807) : wrap64 x = x := by unfold wrap64; omega
/-- A byte. -/
def Byte (x : Int) : Prop := 0 ≤ x ∧ x ≤ 255
def Bytes (l : List Int) : Prop := ∀ x ∈ l, Byte x
theorem byte_wf {x : Int} (h : (Lit.int .u8 x).wf = true) : Byte x := by
  simpa [Byte, Lit.wf, IntKind.min, IntKind.max, IntKind.signed, IntKind.bits] using h
theorem bytes_wf {l : List Int} (h : ∀ x ∈ l, (Lit.int .u8 x).wf = true) : Bytes l := fun x hx => byte_wf (h x hx)
theorem rd_nat (l : List Int) (i : Nat) : rd l (i : Int) = l.getD i 0 := by simp [rd]
theorem rd_lt {l : List Int} {i : Nat} (h : i < l.length) : rd l (i : Int) = l[i] := by
  rw [rd_nat, List.getD_eq_getElem?_getD, List.getElem?_eq_getElem h]; rfl
theorem rd_byte {l : List Int} (h : Bytes l) (i : Int) : Byte (rd l i) := by
  unfold rd
  rw [List.getD_eq_getElem?_getD]
  cases hx : l[i.toNat]? with
  | none => exact ⟨by simp, by simp⟩
  | some x => exact h x (List.mem_of_getElem? hx)
theorem bytes_nil : Bytes [] := fun _ h => by cases h
theorem bytes_snoc {l : List Int} {x : Int} (h : Bytes l) (hx : Byte x) : Bytes (l ++ [x]) := fun y hy => by
  rcases List.mem_append.1 hy with hy | hy
  · exact h y hy
  · rw [List.mem_singleton] at hy; subst hy; exact hx
theorem bytes_append {l m : List Int} (h : Bytes l) (hm : Bytes m) : Bytes (l ++ m) := fun y hy => by
  rcases List.mem_append.1 hy with hy | hy
  · exact h y hy
  · exact hm y hy
theorem bytes_take {l : List Int} (h : Bytes l) (n : Nat) : Bytes (l.take n) := fun y hy => h y (List.mem_of_mem_take hy)
theorem bytes_drop {l : List Int} (h : Bytes l) (n : Nat) : Bytes (l.drop n) := fun y hy => h y (List.mem_of_mem_drop hy)
theorem bytes_set {l : List Int} (h : Bytes l) (n : Nat) {x : Int} (hx : Byte x) : Bytes (l.set n x) := fun y hy => by
  rcases List.mem_or_eq_of_mem_set hy with hy | rfl
  · exact h y hy
  · exact hx
theorem bytes_rep (n : Nat) : Bytes (List.replicate n 0) := fun y hy => by
  rw [List.mem_replicate] at hy; obtain ⟨_, rfl⟩ := hy; exact ⟨by omega, by omega⟩
theorem byte_mod (x : Int) : Byte (x % 256) := ⟨Int.emod_nonneg _ (by decide), by have := Int.emod_lt_of_pos x (show (0 : Int) < 256 by decide); omega⟩
/-- Written place by place, from the left. -/
theorem set_next {α : Type} (l : List α) (z : α) (i : Nat) (h : i < l.length) :
    (l.take i ++ List.replicate (l.length - i) z).set i l[i] = l.take (i + 1) ++ List.replicate (l.length - (i + 1)) z := by
  apply List.ext_getElem?
  intro j
  have hl : (l.take i).length = i := by rw [List.length_take]; omega
  rw [List.getElem?_set]
  by_cases e : i = j
  · subst e
    rw [if_pos rfl]
    have h1 : i < (l.take i ++ List.replicate (l.length - i) z).length := by rw [List.length_append, hl, List.length_replicate]; omega
    rw [if_pos h1, List.getElem?_append_left (by rw [List.length_take]; omega), List.getElem?_take, if_pos (by omega), List.getElem?_eq_getElem h]
  · rw [if_neg e]
    rcases Nat.lt_or_ge j i with hj | hj
    · rw [List.getElem?_append_left (by omega), List.getElem?_append_left (by rw [List.length_take]; omega), List.getElem?_take, List.getElem?_take, if_pos hj, if_pos (by omega)]
    · rw [List.getElem?_append_right (by omega), List.getElem?_append_right (by rw [List.length_take]; omega), hl, List.getElem?_replicate, List.getElem?_replicate, List.length_take]
      by_cases hj2 : j < l.length
      · rw [if_pos (by omega), if_pos (by omega)]
      · rw [if_neg (by omega), if_neg (by omega)]
theorem take_snoc {α : Type} (l : List α) (i : Nat) (h : i < l.length) : l.take (i + 1) = l.take i ++ [l[i]] := by
  rw [List.take_succ_eq_append_getElem h]
theorem ev_up {α : Type} {g : Nat → Option α} (h : ∀ k, LeO (g k) (g (k + 1))) {k k' : Nat} (hk : k ≤ k') {r : α} (hr : g k = some r) : g k' = some r := at_rounds h hk hr
end Go.Proofs.Ytfnkaccncmjnaaa.Pl
namespace Go.Proofs.Ytfnkaccncmjnaaa.Pl
open Go Go.RowKit Go.Proofs.Ytfnkaccncmjnaaa.X Go.Proofs.YtfnkaccncmjnaaaW.PrintWords Go.Proofs.YtfnkaccncmjnaaaW.PrintLast Go.Proofs.YtfnkaccncmjnaaaW.PrintMore
theorem l1In_ok (a lo hi : Int) : spec_l1In.f a lo hi = some (decide (lo ≤ a ∧ a ≤ hi)) := by
  unfold spec_l1In.f
  by_cases h : a ≥ lo
  · rw [if_pos h]; congr 1; simp only [decide_eq_decide]; omega
  · rw [if_neg h]; congr 1; symm; simp only [decide_eq_false_iff_not]; omega
end Go.Proofs.Ytfnkaccncmjnaaa.Pl
namespace Go.Proofs.Ytfnkaccncmjnaaa.Pl
open Go Go.RowKit Go.Proofs.YtfnkaccncmjnaaaW.PrintWords Go.Proofs.YtfnkaccncmjnaaaW.PrintLast Go.Proofs.YtfnkaccncmjnaaaW.PrintMore

theorem pow_nat (m : Nat) : ((2 : Int) ^ m) = ((2 ^ m : Nat) : Int) := by simp
theorem pow_pos' (m : Nat) : (1 : Int) ≤ 2 ^ m := by have := Nat.two_pow_pos m; rw [pow_nat]; omega
theorem pow_le' {m : Nat} (n : Nat) (h : m ≤ n) : (2 : Int) ^ m ≤ 2 ^ n := by
  have := Nat.pow_le_pow_right (show 0 < 2 by decide) h
  rw [pow_nat, pow_nat]; omega
theorem pow_succ' (m : Nat) : (2 : Int) ^ (m + 1) = 2 * 2 ^ m := by rw [Int.pow_succ]; omega
theorem shr_ok (k : IntKind) (x : Int) (m : Nat) (h : m ≤ k.bits) : shr k x (m : Int) = x / 2 ^ m := by
  unfold shr; rw [Int.toNat_natCast, Nat.min_eq_left h]
theorem shl_bit (b : Int) (m : Nat) (hb : b = 0 ∨ b = 1) (h : m ≤ 40) : shl .i64 b (m : Int) = b * 2 ^ m := by
  have h1 := pow_le' 40 h
  have h0 := pow_pos' m
  have h64 : IntKind.i64.wrap (b * 2 ^ m) = wrap64 (b * 2 ^ m) := i64_w _
  unfold shl
  rw [Int.toNat_natCast, Nat.min_eq_left (show m ≤ IntKind.bits .i64 from by have : IntKind.bits .i64 = 64 := rfl; omega), h64, w64]
  · rcases hb with rfl | rfl <;> omega
  · rcases hb with rfl | rfl <;> omega
/-- Joined by 'or' where nothing overlaps: a sum. -/
theorem or_bit (a b : Int) (m : Nat) (ha : 0 ≤ a) (ham : a < 2 ^ m) (hb : b = 0 ∨ b = 1) (h : m ≤ 40) : Go.bits .or .i64 a (b * 2 ^ m) = a + b * 2 ^ m := by
  have h1 := pow_le' 40 h
  have h0 := pow_pos' m
  obtain ⟨x, rfl⟩ := Int.eq_ofNat_of_zero_le ha
  have hx : x < 2 ^ m := by rw [pow_nat] at ham; omega
  have h2 : (2 : Nat) ^ m ≤ 2 ^ 40 := Nat.pow_le_pow_right (by decide) h
  obtain ⟨c, rfl, hc⟩ : ∃ c : Nat, b = (c : Int) ∧ c ≤ 1 := by
    rcases hb with rfl | rfl
    · exact ⟨0, rfl, by omega⟩
    · exact ⟨1, rfl, by omega⟩
  have e1 : (c : Int) * 2 ^ m = ((c * 2 ^ m : Nat) : Int) := by rw [pow_nat]; simp
  have hc2 : c * 2 ^ m ≤ 2 ^ 40 := Nat.le_trans (Nat.mul_le_mul_right _ hc) (by omega)
  have hor : x ||| (c * 2 ^ m) = x + c * 2 ^ m := by
    rw [Nat.mul_comm, Nat.or_comm, ← Nat.two_pow_add_eq_or_of_lt hx, Nat.add_comm]
  have e : Go.bits .or .i64 (x : Int) ((c * 2 ^ m : Nat) : Int) = IntKind.i64.wrap ((x + c * 2 ^ m : Nat) : Int) := by
    simp only [Go.bits, BitVec.ofInt_natCast, BitVec.toNat_or, BitVec.toNat_ofNat]
    rw [show IntKind.bits .i64 = 64 from rfl, Nat.mod_eq_of_lt (by omega), Nat.mod_eq_of_lt (by omega), hor]
  have h64 : IntKind.i64.wrap ((x + c * 2 ^ m : Nat) : Int) = wrap64 ((x + c * 2 ^ m : Nat) : Int) := i64_w _
  rw [e1, e, h64, w64 (by omega) (by omega)]
  omega
theorem and_one (a : Int) (h0 : 0 ≤ a) (h1 : a ≤ 255) : Go.bits .and .u8 a 1 = a % 2 := by
  obtain ⟨x, rfl⟩ := Int.eq_ofNat_of_zero_le h0
  have e : Go.bits .and .u8 (x : Int) 1 = IntKind.u8.wrap ((x % 2 : Nat) : Int) := by
    have h1' : (1 : Int) = ((1 : Nat) : Int) := rfl
    rw [h1']
    simp only [Go.bits, BitVec.ofInt_natCast, BitVec.toNat_and, BitVec.toNat_ofNat]
    rw [show IntKind.bits .u8 = 8 from rfl, Nat.mod_eq_of_lt (by omega), show 1 % 2 ^ 8 = 1 from rfl, Nat.and_one_is_mod]
  rw [e]
  have : x % 2 = 0 ∨ x % 2 = 1 := by omega
  rcases this with h | h <;> rw [h]
  · rw [show ((x : Nat) : Int) % 2 = 0 by omega]; rfl
  · rw [show ((x : Nat) : Int) % 2 = 1 by omega]; rfl
/-- Bit j of bytes. -/
def bitAt (s : List Int) (j : Nat) : Int := s.getD (j / 8) 0 / 2 ^ (j % 8) % 2
/-- The number of n bits from bit a on. -/
def bitSum (s : List Int) (a : Nat) : Nat → Int
  | 0 => 0
  | n + 1 => bitSum s a n + bitAt s (a + n) * 2 ^ n
theorem bitAt_01 (s : List Int) (j : Nat) : bitAt s j = 0 ∨ bitAt s j = 1 := by unfold bitAt; omega
theorem bitSum_lt (s : List Int) (a n : Nat) : 0 ≤ bitSum s a n ∧ bitSum s a n < 2 ^ n := by
  induction n with
  | zero => exact ⟨Int.le_refl _, show (0 : Int) < 2 ^ 0 by decide⟩
  | succ n ih =>
    have h0 := pow_pos' n
    simp only [bitSum]
    rw [pow_succ']
    rcases bitAt_01 s (a + n) with h | h <;> rw [h] <;> omega
theorem bitSum_add (s : List Int) (a m n : Nat) : bitSum s a (m + n) = bitSum s a m + bitSum s (a + m) n * 2 ^ m := by
  induction n with
  | zero => simp [bitSum]
  | succ n ih =>
    rw [← Nat.add_assoc]
    simp only [bitSum]
    rw [ih, Int.add_mul, Int.pow_add, show a + (m + n) = a + m + n by omega, Int.mul_assoc, Int.mul_comm (2 ^ n) (2 ^ m), Int.add_assoc]
/-- A bit's place is within the bytes. -/
theorem bit_place (a : Nat) (ha : (a : Int) ≤ 4611686018427387904) : wrap64 (Int.tdiv (a : Int) 8) = ((a / 8 : Nat) : Int) ∧ Int.tmod (a : Int) 8 = ((a % 8 : Nat) : Int) := by
  rw [Int.tdiv_eq_ediv_of_nonneg (by omega), Int.tmod_eq_emod_of_nonneg (by omega), w64 (by omega) (by omega)]
  exact ⟨by omega, by omega⟩
theorem getD_byte {s : List Int} (hs : Bytes s) (i : Nat) : Byte (s.getD i 0) := by rw [← rd_nat]; exact rd_byte hs _
theorem div_byte {x : Int} (h : Byte x) (m : Nat) : Byte (x / 2 ^ m) := by
  have h0 := pow_pos' m
  refine ⟨Int.ediv_nonneg h.1 (by omega), ?_⟩
  have := Int.ediv_le_self (2 ^ m) h.1
  have := h.2
  omega
/-- The bit as the reader takes it. -/
theorem bit_read {s : List Int} (hs : Bytes s) (a : Nat) : wrap64 (Go.bits .and .u8 (shr .u8 (rd s ((a / 8 : Nat) : Int)) ((a % 8 : Nat) : Int)) 1) = bitAt s a := by
  have hb := div_byte (getD_byte hs (a / 8)) (a % 8)
  rw [shr_ok _ _ _ (show a % 8 ≤ 8 by omega), rd_nat, and_one _ hb.1 hb.2]
  unfold bitAt
  exact w64 (by omega) (by omega)
/-- The bit as the reference takes it. -/
theorem bit_read' {s : List Int} (hs : Bytes s) (a : Nat) : Int.tmod (shr .i64 (wrap64 (rd s ((a / 8 : Nat) : Int))) ((a % 8 : Nat) : Int)) 2 = bitAt s a := by
  have hb := div_byte (getD_byte hs (a / 8)) (a % 8)
  obtain ⟨h0, h1⟩ := getD_byte hs (a / 8)
  rw [rd_nat, w64 (by omega) (by omega), shr_ok _ _ _ (show a % 8 ≤ 64 by omega), Int.tmod_eq_emod_of_nonneg hb.1]
  rfl
end Go.Proofs.Ytfnkaccncmjnaaa.Pl
namespace Go.Proofs.Ytfnkaccncmjnaaa.Pl
open Go Go.RowKit Go.Proofs.Ytfnkaccncmjnaaa.X Go.Proofs.YtfnkaccncmjnaaaW.PrintWords Go.Proofs.YtfnkaccncmjnaaaW.PrintLast Go.Proofs.YtfnkaccncmjnaaaW.PrintMore
def BitP (n b : Int) : Prop := 1 ≤ b ∧ b ≤ 12 ∧ 0 ≤ n ∧ n < 2 ^ b.toNat
instance (n b : Int) : Decidable (BitP n b) := by unfold BitP; infer_instance
theorem pow_cast (m : Nat) : ((2 : Int) ^ m) = ((2 ^ m : Nat) : Int) := by simp
theorem pow_le {b : Int} (h0 : 0 ≤ b) (h1 : b ≤ 12) : (1 : Int) ≤ 2 ^ b.toNat ∧ (2 : Int) ^ b.toNat ≤ 4096 := by
  obtain ⟨m, rfl⟩ := Int.eq_ofNat_of_zero_le h0
  have hm : m ≤ 12 := by omega
  rw [Int.toNat_natCast, pow_cast]
  have h2 : 2 ^ m ≤ 4096 := Nat.le_trans (Nat.pow_le_pow_right (by decide) hm) (by decide)
  have h3 : 0 < 2 ^ m := Nat.two_pow_pos m
  omega
theorem shl_one {b : Int} (h0 : 0 ≤ b) (h1 : b ≤ 12) : shl .i64 1 b = 2 ^ b.toNat := by
  have h := pow_le h0 h1
  unfold shl
  have : min b.toNat (IntKind.bits .i64) = b.toNat := by
    have : IntKind.bits .i64 = 64 := rfl
    omega
  rw [this, Int.one_mul]
  have h64 : IntKind.i64.wrap (2 ^ b.toNat) = wrap64 (2 ^ b.toNat) := i64_w _
  rw [h64, w64 (by omega) (by omega)]
theorem bit_no {n b : Int} (h : ¬ BitP n b) : some false = some (decide (BitP n b)) := by rw [decide_eq_false h]
theorem bit_iff {p : Prop} [Decidable p] {n b : Int} (h : p ↔ BitP n b) : some (decide p) = some (decide (BitP n b)) := by rw [decide_eq_decide.mpr h]
theorem implBitOk_ok (n b : Int) : impl_BitOk.f n b = some (decide (BitP n b)) := by
  unfold impl_BitOk.f
  by_cases h1 : b ≥ 1
  · rw [if_pos h1]
    by_cases h2 : b ≤ 12
    · rw [if_pos h2]
      by_cases h3 : n ≥ 0
      · rw [if_pos h3, if_pos (by omega), shl_one (by omega) h2]
        exact bit_iff ⟨fun h => ⟨h1, h2, h3, h⟩, fun h => h.2.2.2⟩
      · rw [if_neg h3]; exact bit_no (fun h => h3 h.2.2.1)
    · rw [if_neg h2]; exact bit_no (fun h => h2 h.2.1)
  · rw [if_neg h1]; exact bit_no (fun h => h1 h.1)
theorem specBitOk_ok (n b : Int) : spec_BitOk.f n b = some (decide (BitP n b)) := by
  unfold spec_BitOk.f
  simp only [l1In_ok, Option.bind_some]
  by_cases h1 : 1 ≤ b ∧ b ≤ 12
  · have hp := pow_le (show 0 ≤ b by omega) h1.2
    rw [decide_eq_true h1, if_pos rfl, if_pos (by omega), shl_one (by omega) h1.2, w64 (by omega) (by omega)]
    exact bit_iff ⟨fun h => ⟨h1.1, h1.2, h.1, by have := h.2; omega⟩, fun h => ⟨h.2.2.1, by have := h.2.2.2; omega⟩⟩
  · rw [decide_eq_false h1, if_neg (by decide)]; exact bit_no (fun h => h1 ⟨h.1, h.2.1⟩)
end Go.Proofs.Ytfnkaccncmjnaaa.Pl
namespace Go.Proofs.Ytfnkaccncmjnaaa.Pl
open Go Go.RowKit Go.Proofs.YtfnkaccncmjnaaaW.PrintWords Go.Proofs.YtfnkaccncmjnaaaW.PrintLast Go.Proofs.YtfnkaccncmjnaaaW.PrintMore

/-- Room for bit u. -/
def gro (l : List Int) (u : Nat) : List Int := if u % 8 = 0 then l ++ [0] else l
/-- Bit u laid. -/
def stp (l : List Int) (u : Nat) (c : Int) : List Int := (gro l u).set (u / 8) ((gro l u).getD (u / 8) 0 + c * 2 ^ (u % 8))
/-- Bytes that hold u bits. -/
structure Inv (l : List Int) (u : Nat) : Prop where
  len : l.length = (u + 7) / 8
  byt : Bytes l
  low : u % 8 ≠ 0 → l.getD (u / 8) 0 < 2 ^ (u % 8)
theorem inv_nil : Inv [] 0 := ⟨rfl, bytes_nil, fun h => absurd rfl h⟩
theorem gro_facts {l : List Int} {u : Nat} (h : Inv l u) : (gro l u).length = u / 8 + 1 ∧ Bytes (gro l u) ∧ 0 ≤ (gro l u).getD (u / 8) 0 ∧ (gro l u).getD (u / 8) 0 < 2 ^ (u % 8) := by
  have hl := h.len
  unfold gro
  by_cases e : u % 8 = 0
  · rw [if_pos e]
    refine ⟨by rw [List.length_append, List.length_singleton]; omega, bytes_snoc h.byt ⟨by omega, by omega⟩, ?_⟩
    have : (l ++ [0]).getD (u / 8) 0 = (0 : Int) := by
      rw [List.getD_eq_getElem?_getD, List.getElem?_append_right (by omega), show u / 8 - l.length = 0 by omega]
      rfl
    rw [this, e]
    exact ⟨by omega, by decide⟩
  · rw [if_neg e]
    exact ⟨by omega, h.byt, (getD_byte h.byt _).1, h.low e⟩
theorem pow7 {m : Nat} (h : m < 8) : (1 : Int) ≤ 2 ^ m ∧ (2 : Int) ^ m ≤ 128 := by
  have := pow_le' 7 (show m ≤ 7 by omega)
  exact ⟨pow_pos' m, by simpa using this⟩
theorem getD_set_self {l : List Int} {i : Nat} (h : i < l.length) (x : Int) : (l.set i x).getD i 0 = x := by
  rw [List.getD_eq_getElem?_getD, List.getElem?_set_self h]; rfl
theorem getD_set_ne {l : List Int} {i j : Nat} (h : i ≠ j) (x : Int) : (l.set i x).getD j 0 = l.getD j 0 := by
  rw [List.getD_eq_getElem?_getD, List.getD_eq_getElem?_getD, List.getElem?_set_ne h]
theorem inv_stp {l : List Int} {u : Nat} (h : Inv l u) {c : Int} (hc : c = 0 ∨ c = 1) : Inv (stp l u c) (u + 1) := by
  obtain ⟨g1, g2, g3, g4⟩ := gro_facts h
  have hp := pow7 (show u % 8 < 8 by omega)
  unfold stp
  generalize gro l u = g at g1 g2 g3 g4
  generalize hx : g.getD (u / 8) 0 = x at g3 g4
  have hs : x + c * 2 ^ (u % 8) < 2 * 2 ^ (u % 8) ∧ 0 ≤ x + c * 2 ^ (u % 8) := by rcases hc with rfl | rfl <;> omega
  refine ⟨by rw [List.length_set]; omega, bytes_set g2 _ ⟨by omega, by omega⟩, fun e => ?_⟩
  rw [show (u + 1) / 8 = u / 8 by omega, getD_set_self (by omega), show (u + 1) % 8 = u % 8 + 1 by omega, pow_succ']
  omega
theorem bit_low (x c : Int) (m t : Nat) (hm : m < 8) (ht : t < m) : (x + c * 2 ^ m) / 2 ^ t % 2 = x / 2 ^ t % 2 := by
  obtain ⟨d, rfl⟩ : ∃ d, m = t + 1 + d := ⟨m - t - 1, by omega⟩
  have e : c * 2 ^ (t + 1 + d) = (2 * (c * 2 ^ d)) * 2 ^ t := by
    rw [Int.pow_add, Int.pow_add, Int.pow_one]
    rw [Int.mul_comm (2 ^ t) 2, Int.mul_assoc, Int.mul_comm (2 ^ t), ← Int.mul_assoc, ← Int.mul_assoc, Int.mul_comm c 2, Int.mul_assoc 2 c]
  rw [e, Int.add_mul_ediv_right _ _ (by have := pow_pos' t; omega)]
  omega
theorem bit_high (x c : Int) (m : Nat) (hx0 : 0 ≤ x) (hx1 : x < 2 ^ m) (hc : c = 0 ∨ c = 1) : (x + c * 2 ^ m) / 2 ^ m % 2 = c := by
  rw [Int.add_mul_ediv_right _ _ (by have := pow_pos' m; omega), Int.ediv_eq_zero_of_lt hx0 hx1]
  rcases hc with rfl | rfl <;> rfl
theorem bit_stp_lt {l : List Int} {u : Nat} (h : Inv l u) {c : Int} {j : Nat} (hj : j < u) : bitAt (stp l u c) j = bitAt l j := by
  obtain ⟨g1, g2, g3, g4⟩ := gro_facts h
  have hl := h.len
  unfold bitAt stp
  by_cases e : u / 8 = j / 8
  · rw [← e, getD_set_self (by omega), bit_low _ _ _ _ (by omega) (by omega)]
    unfold gro
    rw [if_neg (by omega)]
  · rw [getD_set_ne e]
    congr 2
    unfold gro
    by_cases e8 : u % 8 = 0
    · rw [if_pos e8, List.getD_eq_getElem?_getD, List.getElem?_append_left (by omega), ← List.getD_eq_getElem?_getD]
    · rw [if_neg e8]
theorem bit_stp_eq {l : List Int} {u : Nat} (h : Inv l u) {c : Int} (hc : c = 0 ∨ c = 1) : bitAt (stp l u c) u = c := by
  obtain ⟨g1, g2, g3, g4⟩ := gro_facts h
  unfold bitAt stp
  rw [getD_set_self (by omega)]
  exact bit_high _ _ _ g3 g4 hc
/-- i bits of n laid from bit u on. -/
def putN (l : List Int) (u : Nat) (n : Int) : Nat → List Int
  | 0 => l
  | i + 1 => stp (putN l u n i) (u + i) (n / 2 ^ i % 2)
theorem mod2 (x : Int) : x % 2 = 0 ∨ x % 2 = 1 := by omega
theorem inv_putN {l : List Int} {u : Nat} (h : Inv l u) (n : Int) : ∀ i, Inv (putN l u n i) (u + i)
  | 0 => h
  | i + 1 => inv_stp (inv_putN h n i) (mod2 _)
theorem bit_putN_lt {l : List Int} {u : Nat} (h : Inv l u) (n : Int) {j : Nat} (hj : j < u) : ∀ i, bitAt (putN l u n i) j = bitAt l j
  | 0 => rfl
  | i + 1 => (bit_stp_lt (inv_putN h n i) (by omega)).trans (bit_putN_lt h n hj i)
theorem bit_putN {l : List Int} {u : Nat} (h : Inv l u) (n : Int) (t : Nat) : ∀ i, t < i → bitAt (putN l u n i) (u + t) = n / 2 ^ t % 2
  | 0, ht => absurd ht (by omega)
  | i + 1, ht => by
    simp only [putN]
    by_cases e : t = i
    · subst e; exact bit_stp_eq (inv_putN h n t) (mod2 _)
    · rw [bit_stp_lt (inv_putN h n i) (by omega)]
      exact bit_putN h n t i (by omega)
theorem emod_pow (n : Int) (b : Nat) : n % 2 ^ (b + 1) = n % 2 ^ b + n / 2 ^ b % 2 * 2 ^ b := by
  have hp := pow_pos' b
  generalize hP : (2 : Int) ^ b = p at hp
  rw [pow_succ', hP]
  have h1 := Int.mul_ediv_add_emod n p
  have h2 := Int.emod_nonneg n (show p ≠ 0 by omega)
  have h3 := Int.emod_lt_of_pos n (show 0 < p by omega)
  generalize n / p = q at h1
  generalize n % p = r at h1 h2 h3
  have e : n = (r + q % 2 * p) + (2 * p) * (q / 2) := by
    have hq := Int.mul_ediv_add_emod q 2
    generalize q / 2 = y at hq
    generalize q % 2 = z at hq
    subst hq
    rw [← h1, Int.mul_add, Int.mul_assoc 2 p y, Int.mul_left_comm p 2 y, Int.mul_comm z p]
    omega
  rw [e, Int.add_mul_emod_self_left]
  refine Int.emod_eq_of_lt ?_ ?_
  · rcases mod2 q with h | h <;> rw [h] <;> omega
  · rcases mod2 q with h | h <;> rw [h] <;> omega
theorem bitSum_of {L : List Int} {u : Nat} {n : Int} : ∀ b : Nat, (∀ t, t < b → bitAt L (u + t) = n / 2 ^ t % 2) → bitSum L u b = n % 2 ^ b
  | 0, _ => by simp [bitSum, Int.emod_one]
  | b + 1, h => by
    simp only [bitSum]
    rw [bitSum_of b (fun t ht => h t (by omega)), h b (by omega), emod_pow]
theorem bitSum_congr {L M : List Int} {u : Nat} : ∀ b : Nat, (∀ t, t < b → bitAt L (u + t) = bitAt M (u + t)) → bitSum L u b = bitSum M u b
  | 0, _ => rfl
  | b + 1, h => by
    simp only [bitSum]
    rw [bitSum_congr b (fun t ht => h t (by omega)), h b (by omega)]
/-- What lies ahead on whole bytes stays. -/
theorem stp_ahead (A l : List Int) (u : Nat) (c : Int) : stp (A ++ l) (8 * A.length + u) c = A ++ stp l u c := by
  unfold stp gro
  rw [show (8 * A.length + u) % 8 = u % 8 by omega, show (8 * A.length + u) / 8 = A.length + u / 8 by omega]
  by_cases e : u % 8 = 0
  · rw [if_pos e, if_pos e, List.append_assoc]
    rw [List.set_append_right _ _ (by omega), show A.length + u / 8 - A.length = u / 8 by omega]
    congr 2
    congr 1
    rw [List.getD_eq_getElem?_getD, List.getElem?_append_right (by omega), show A.length + u / 8 - A.length = u / 8 by omega, ← List.getD_eq_getElem?_getD]
  · rw [if_neg e, if_neg e]
    rw [List.set_append_right _ _ (by omega), show A.length + u / 8 - A.length = u / 8 by omega]
    congr 2
    congr 1
    rw [List.getD_eq_getElem?_getD, List.getElem?_append_right (by omega), show A.length + u / 8 - A.length = u / 8 by omega, ← List.getD_eq_getElem?_getD]
theorem putN_ahead (A l : List Int) (u : Nat) (n : Int) : ∀ i, putN (A ++ l) (8 * A.length + u) n i = A ++ putN l u n i
  | 0 => rfl
  | i + 1 => by
    simp only [putN]
    rw [putN_ahead A l u n i, Nat.add_assoc, stp_ahead]
theorem putN_byte (n : Int) (h : Byte n) : putN [] 0 n 8 = [n] := by
  have hi := inv_putN inv_nil n 8
  have hlen := hi.len
  obtain ⟨x, hx⟩ : ∃ x, putN [] 0 n 8 = [x] := by
    match hq : putN [] 0 n 8 with
    | [] => rw [hq] at hlen; simp at hlen
    | [x] => exact ⟨x, rfl⟩
    | x :: y :: l => rw [hq] at hlen; simp at hlen
  have hb : ∀ t, t < 8 → x / 2 ^ t % 2 = n / 2 ^ t % 2 := by
    intro t ht
    have := bit_putN inv_nil n t 8 ht
    rw [hx] at this
    unfold bitAt at this
    rw [show (0 + t) / 8 = 0 by omega, show (0 + t) % 8 = t by omega] at this
    simpa using this
  have hxb : Byte x := by have := hi.byt; rw [hx] at this; exact this x (by simp)
  have e0 := hb 0 (by omega); have e1 := hb 1 (by omega); have e2 := hb 2 (by omega); have e3 := hb 3 (by omega)
  have e4 := hb 4 (by omega); have e5 := hb 5 (by omega); have e6 := hb 6 (by omega); have e7 := hb 7 (by omega)
  obtain ⟨x0, x1⟩ := hxb
  obtain ⟨n0, n1⟩ := h
  rw [hx]
  congr 1
  simp only [Int.reducePow] at e0 e1 e2 e3 e4 e5 e6 e7
  omega
end Go.Proofs.Ytfnkaccncmjnaaa.Pl
namespace Go.Proofs.Ytfnkaccncmjnaaa.Pl
open Go Go.RowKit Go.Proofs.Ytfnkaccncmjnaaa.X Go.Proofs.YtfnkaccncmjnaaaW.PrintWords Go.Proofs.YtfnkaccncmjnaaaW.PrintLast Go.Proofs.YtfnkaccncmjnaaaW.PrintMore

def tb : List S36 → Nat
  | [] => 0
  | x :: xs => x.f1.toNat + tb xs
def putL : List S36 → List Int → Nat → List Int
  | [], l, _ => l
  | x :: xs, l, u => putL xs (putN l u x.f0 x.f1.toNat) (u + x.f1.toNat)
def PutOk (xs : List S36) (u : Nat) : Prop := (∀ x ∈ xs, BitP x.f0 x.f1) ∧ u + tb xs ≤ 3200
instance (xs : List S36) (u : Nat) : Decidable (PutOk xs u) := by unfold PutOk; infer_instance
def res (xs : List S36) (l : List Int) (u : Nat) : List Int := if PutOk xs u then putL xs l u else []
theorem tb_append (xs ys : List S36) : tb (xs ++ ys) = tb xs + tb ys := by
  induction xs with
  | nil => simp [tb]
  | cons x xs ih => simp only [List.cons_append, tb, ih]; omega
theorem putL_append (xs ys : List S36) (l : List Int) (u : Nat) : putL (xs ++ ys) l u = putL ys (putL xs l u) (u + tb xs) := by
  induction xs generalizing l u with
  | nil => rfl
  | cons x xs ih => simp only [List.cons_append, putL, tb, ih]; rw [Nat.add_assoc]
theorem inv_putL (xs : List S36) {l : List Int} {u : Nat} (h : Inv l u) : Inv (putL xs l u) (u + tb xs) := by
  induction xs generalizing l u with
  | nil => exact h
  | cons x xs ih => simp only [putL, tb]; rw [← Nat.add_assoc]; exact ih (inv_putN h _ _)
theorem bit_putL_lt (xs : List S36) {l : List Int} {u j : Nat} (h : Inv l u) (hj : j < u) : bitAt (putL xs l u) j = bitAt l j := by
  induction xs generalizing l u with
  | nil => rfl
  | cons x xs ih => simp only [putL]; rw [ih (inv_putN h _ _) (by omega), bit_putN_lt h _ hj]
/-- The number that was laid is read again. -/
theorem sum_putL (xs : List S36) (x : S36) (ys : List S36) {l : List Int} {u : Nat} (h : Inv l u) (hx : BitP x.f0 x.f1) : bitSum (putL (xs ++ x :: ys) l u) (u + tb xs) x.f1.toNat = x.f0 := by
  rw [putL_append]
  simp only [putL]
  have hi := inv_putL xs h
  obtain ⟨_, _, h0, h1⟩ := hx
  have e : bitSum (putL ys (putN (putL xs l u) (u + tb xs) x.f0 x.f1.toNat) (u + tb xs + x.f1.toNat)) (u + tb xs) x.f1.toNat = bitSum (putN (putL xs l u) (u + tb xs) x.f0 x.f1.toNat) (u + tb xs) x.f1.toNat :=
    bitSum_congr _ (fun t ht => bit_putL_lt ys (inv_putN hi _ _) (by omega))
  rw [e, bitSum_of _ (fun t ht => bit_putN hi _ t _ ht)]
  exact Int.emod_eq_of_lt h0 h1
theorem putL_ahead (A : List Int) (xs : List S36) (l : List Int) (u : Nat) : putL xs (A ++ l) (8 * A.length + u) = A ++ putL xs l u := by
  induction xs generalizing l u with
  | nil => rfl
  | cons x xs ih => simp only [putL]; rw [putN_ahead, Nat.add_assoc]; exact ih _ _
/-! The steps of both. -/
theorem and_one64 (a : Int) (h0 : 0 ≤ a) (h1 : a < 4611686018427387904) : Go.bits .and .i64 a 1 = a % 2 := by
  obtain ⟨x, rfl⟩ := Int.eq_ofNat_of_zero_le h0
  have hx : x < 2 ^ 62 := by omega
  have e : Go.bits .and .i64 (x : Int) 1 = IntKind.i64.wrap ((x % 2 : Nat) : Int) := by
    have h1' : (1 : Int) = ((1 : Nat) : Int) := rfl
    rw [h1']
    simp only [Go.bits, BitVec.ofInt_natCast, BitVec.toNat_and, BitVec.toNat_ofNat]
    rw [show IntKind.bits .i64 = 64 from rfl, Nat.mod_eq_of_lt (by omega), show 1 % 2 ^ 64 = 1 from rfl, Nat.and_one_is_mod]
  have e2 : IntKind.i64.wrap ((x % 2 : Nat) : Int) = wrap64 ((x % 2 : Nat) : Int) := i64_w _
  rw [e, e2, w64 (by omega) (by omega)]
  omega
theorem u8_same {x : Int} (h0 : 0 ≤ x) (h1 : x ≤ 255) : IntKind.u8.wrap x = x := by rw [IntKind.wrap_u8]; omega
theorem or_bit8 (a c : Int) (m : Nat) (ha : 0 ≤ a) (ham : a < 2 ^ m) (hc : c = 0 ∨ c = 1) (h : m < 8) : Go.bits .or .u8 a (c * 2 ^ m) = a + c * 2 ^ m := by
  have h1 := pow7 h
  obtain ⟨x, rfl⟩ := Int.eq_ofNat_of_zero_le ha
  have hx : x < 2 ^ m := by rw [pow_nat] at ham; omega
  have h2 : (2 : Nat) ^ m ≤ 2 ^ 7 := Nat.pow_le_pow_right (by decide) (by omega)
  obtain ⟨d, rfl, hd⟩ : ∃ d : Nat, c = (d : Int) ∧ d ≤ 1 := by
    rcases hc with rfl | rfl
    · exact ⟨0, rfl, by omega⟩
    · exact ⟨1, rfl, by omega⟩
  have e1 : (d : Int) * 2 ^ m = ((d * 2 ^ m : Nat) : Int) := by rw [pow_nat]; simp
  have hd2 : d * 2 ^ m ≤ 2 ^ 7 := Nat.le_trans (Nat.mul_le_mul_right _ hd) (by omega)
  have hor : x ||| (d * 2 ^ m) = x + d * 2 ^ m := by
    rw [Nat.mul_comm, Nat.or_comm, ← Nat.two_pow_add_eq_or_of_lt hx, Nat.add_comm]
  have e : Go.bits .or .u8 (x : Int) ((d * 2 ^ m : Nat) : Int) = IntKind.u8.wrap ((x + d * 2 ^ m : Nat) : Int) := by
    simp only [Go.bits, BitVec.ofInt_natCast, BitVec.toNat_or, BitVec.toNat_ofNat]
    rw [show IntKind.bits .u8 = 8 from rfl, Nat.mod_eq_of_lt (by omega), Nat.mod_eq_of_lt (by omega), hor]
  rw [e1, e, u8_same (by omega) (by omega)]
  omega
theorem pow_small {n : Int} (h0 : 0 ≤ n) (h1 : n ≤ 4095) (i : Nat) : 0 ≤ n / 2 ^ i ∧ n / 2 ^ i ≤ 4095 := by
  have hp := pow_pos' i
  exact ⟨Int.ediv_nonneg h0 (by omega), Int.le_trans (Int.ediv_le_self _ h0) h1⟩
theorem implBit (x : Int) (u i : Nat) (n : Int) (hx0 : 0 ≤ x) (hx1 : x < 2 ^ (u % 8)) (h0 : 0 ≤ n) (h1 : n ≤ 4095) : impl_BitPut.bit x u n i = x + n / 2 ^ i % 2 * 2 ^ (u % 8) := by
  obtain ⟨s0, s1⟩ := pow_small h0 h1 i
  have hp := pow7 (show u % 8 < 8 by omega)
  unfold impl_BitPut.bit
  rw [Int.toNat_natCast, and_one64 _ s0 (by omega), u8_same (x := n / 2 ^ i % 2) (by omega) (by omega), show ((u : Int) % 8).toNat = u % 8 by omega]
  rw [u8_same (by rcases mod2 (n / 2 ^ i) with h | h <;> rw [h] <;> omega) (by rcases mod2 (n / 2 ^ i) with h | h <;> rw [h] <;> omega)]
  exact or_bit8 _ _ _ hx0 hx1 (mod2 _) (by omega)
theorem implGrow (l : List Int) (u : Nat) : impl_BitPut.grow l u = gro l u := by
  unfold impl_BitPut.grow gro
  by_cases e : u % 8 = 0
  · rw [if_pos e, if_pos (by omega)]
  · rw [if_neg e, if_neg (by omega)]
theorem bitP_small {n b : Int} (h : BitP n b) : 1 ≤ b ∧ b ≤ 12 ∧ 0 ≤ n ∧ n ≤ 4095 := by
  obtain ⟨h1, h2, h3, h4⟩ := h
  have := pow_le (show 0 ≤ b by omega) h2
  exact ⟨h1, h2, h3, by omega⟩
theorem implPut_l {l : List Int} {u : Nat} (h : Inv l u) (n : Int) (b : Nat) (h0 : 0 ≤ n) (h1 : n ≤ 4095) (hb : b ≤ 12) (hu : u ≤ 3200) : ∀ (d i k : Nat), i + d = b → d < k →
    impl_BitPut.put k (putN l u n i) ((u + i : Nat) : Int) n (b : Int) (i : Int) = some (putN l u n b, ((u + b : Nat) : Int)) := by
  intro d
  induction d with
  | zero =>
    intro i k hi hk
    obtain ⟨k, rfl⟩ : ∃ m, k = m + 1 := ⟨k - 1, by omega⟩
    obtain rfl : i = b := by omega
    unfold impl_BitPut.put
    rw [if_neg (by omega)]
  | succ d ih =>
    intro i k hi hk
    obtain ⟨k, rfl⟩ : ∃ m, k = m + 1 := ⟨k - 1, by omega⟩
    have hv := inv_putN h n i
    have hlen := hv.len
    obtain ⟨g1, g2, g3, g4⟩ := gro_facts hv
    unfold impl_BitPut.put
    rw [if_pos (by omega), if_pos ⟨by omega, by omega, by omega, by omega, h0, h1, by omega⟩, implGrow, show (((u + i : Nat) : Int) / 8) = (((u + i) / 8 : Nat) : Int) by omega, rd_nat, Int.toNat_natCast, implBit _ _ _ _ g3 g4 h0 h1]
    exact ih (i + 1) k (by omega) (by omega)
theorem implOne_ok {l : List Int} {u : Nat} (h : Inv l u) (n b : Int) (hu : u ≤ 3200) (k : Nat) (hk : 14 ≤ k) :
    impl_BitPut.one k l (u : Int) false n b = some (if BitP n b ∧ (u : Int) + b ≤ 3200 then (putN l u n b.toNat, ((u + b.toNat : Nat) : Int), false) else (l, (u : Int), true)) := by
  unfold impl_BitPut.one
  rw [if_neg (by decide), implBitOk_ok, Option.bind_some]
  by_cases hp : BitP n b
  · obtain ⟨b1, b2, n0, n1⟩ := bitP_small hp
    rw [decide_eq_true hp, if_neg (by decide), if_pos ⟨by omega, by omega, by omega, by omega⟩]
    by_cases ho : (u : Int) + b > 3200
    · rw [if_pos ho, if_neg (fun h => by have := h.2; omega)]
    · rw [if_neg ho, if_pos ⟨hp, by omega⟩]
      obtain ⟨m, rfl⟩ := Int.eq_ofNat_of_zero_le (show 0 ≤ b by omega)
      have := implPut_l h n m n0 n1 (by omega) hu m 0 k (by omega) (by omega)
      rw [show putN l u n 0 = l from rfl, Nat.add_zero, show ((0 : Nat) : Int) = 0 from rfl] at this
      rw [this, Option.bind_some]
      rfl
  · rw [decide_eq_false hp, if_pos rfl, if_neg (fun h => hp h.1)]
theorem rdT {xs : List S36} {i : Nat} (h : i < xs.length) : rd_T36 xs (i : Int) = xs[i] := by
  unfold rd_T36
  rw [Int.toNat_natCast, List.getD_eq_getElem?_getD, List.getElem?_eq_getElem h]; rfl
theorem implAll_bad (xs : List S36) : ∀ (d i k : Nat) (l : List Int) (u : Int), i + d = xs.length → d < k → impl_BitPut.all k xs l u true (i : Int) = some [] := by
  intro d
  induction d with
  | zero =>
    intro i k l u hi hk
    obtain ⟨k, rfl⟩ : ∃ m, k = m + 1 := ⟨k - 1, by omega⟩
    unfold impl_BitPut.all
    rw [if_neg (by omega), if_pos rfl]
  | succ d ih =>
    intro i k l u hi hk
    obtain ⟨k, rfl⟩ : ∃ m, k = m + 1 := ⟨k - 1, by omega⟩
    unfold impl_BitPut.all impl_BitPut.one
    rw [if_pos (by omega), if_pos (by omega), if_pos rfl, Option.bind_some]
    exact ih (i + 1) k l u (by omega) (by omega)
theorem good_cons {x : S36} {xs : List S36} {u : Nat} : PutOk (x :: xs) u ↔ (BitP x.f0 x.f1 ∧ (u : Int) + x.f1 ≤ 3200) ∧ PutOk xs (u + x.f1.toNat) := by
  unfold PutOk
  simp only [tb]
  constructor
  · intro h
    have hx := h.1 x (by simp)
    obtain ⟨b1, _⟩ := bitP_small hx
    exact ⟨⟨hx, by omega⟩, fun y hy => h.1 y (by simp [hy]), by omega⟩
  · intro h
    refine ⟨fun y hy => ?_, by omega⟩
    rcases List.mem_cons.1 hy with rfl | hy
    · exact h.1.1
    · exact h.2.1 y hy
theorem drop_cons {xs : List S36} {i : Nat} (h : i < xs.length) : xs.drop i = xs[i] :: xs.drop (i + 1) := List.drop_eq_getElem_cons h
theorem implAll_l (xs : List S36) : ∀ (d i k : Nat) (l : List Int) (u : Nat), i + d = xs.length → d + 16 < k → Inv l u → u ≤ 3200 → impl_BitPut.all k xs l (u : Int) false (i : Int) = some (res (xs.drop i) l u) := by
  intro d
  induction d with
  | zero =>
    intro i k l u hi hk hv hu
    obtain ⟨k, rfl⟩ : ∃ m, k = m + 1 := ⟨k - 1, by omega⟩
    unfold impl_BitPut.all
    rw [if_neg (by omega), if_neg (by decide), List.drop_eq_nil_of_le (by omega)]
    unfold res
    rw [if_pos ⟨(fun _ h => by cases h), by simp only [tb]; omega⟩]
    rfl
  | succ d ih =>
    intro i k l u hi hk hv hu
    obtain ⟨k, rfl⟩ : ∃ m, k = m + 1 := ⟨k - 1, by omega⟩
    unfold impl_BitPut.all
    rw [if_pos (by omega), if_pos (by omega), rdT (show i < xs.length by omega), implOne_ok hv _ _ hu k (by omega), Option.bind_some, drop_cons (show i < xs.length by omega)]
    by_cases hp : BitP (xs[i]'(by omega)).f0 (xs[i]'(by omega)).f1 ∧ (u : Int) + (xs[i]'(by omega)).f1 ≤ 3200
    · rw [if_pos hp]
      obtain ⟨b1, _⟩ := bitP_small hp.1
      have e := ih (i + 1) k _ _ (by omega) (by omega) (inv_putN hv (xs[i]'(by omega)).f0 (xs[i]'(by omega)).f1.toNat) (by omega)
      refine Eq.trans e ?_
      unfold res
      by_cases hg : PutOk (xs.drop (i + 1)) (u + (xs[i]'(by omega)).f1.toNat)
      · rw [if_pos hg, if_pos (good_cons.2 ⟨hp, hg⟩)]; rfl
      · rw [if_neg hg, if_neg (fun h => hg (good_cons.1 h).2)]
    · rw [if_neg hp]
      refine Eq.trans (implAll_bad xs d (i + 1) k l u (by omega) (by omega)) ?_
      unfold res
      rw [if_neg (fun h => hp (good_cons.1 h).1)]
theorem implPut_ok (xs : List S36) (k : Nat) (hk : xs.length + 16 < k) : impl_BitPut.f k xs = some (res xs [] 0) := implAll_l xs xs.length 0 k [] 0 (by omega) hk inv_nil (by omega)
/-! The reference. -/
theorem specBit (x : Int) (u i : Nat) (n : Int) (hi : i ≤ 12) (hx0 : 0 ≤ x) (hx1 : x < 2 ^ (u % 8)) (h0 : 0 ≤ n) (h1 : n ≤ 4095) : (x + shl .i64 (Int.tmod (shr .i64 n (i : Int)) 2) (((u % 8 : Nat) : Int)) % 256) % 256 = x + n / 2 ^ i % 2 * 2 ^ (u % 8) := by
  obtain ⟨s0, s1⟩ := pow_small h0 h1 i
  have hp := pow7 (show u % 8 < 8 by omega)
  rw [shr_ok _ _ _ (show i ≤ 64 by omega), Int.tmod_eq_emod_of_nonneg s0, shl_bit _ _ (mod2 _) (by omega)]
  rcases mod2 (n / 2 ^ i) with h | h <;> rw [h] <;> omega
theorem specPut_l (xs : List S36) (j : Nat) (hj : j < xs.length) (hxl : xs.length ≤ 1099511627776) {l : List Int} {u : Nat} (h : Inv l u) (b : Nat) (hb : xs[j].f1 = (b : Int)) (h0 : 0 ≤ xs[j].f0) (h1 : xs[j].f0 ≤ 4095) (hb12 : b ≤ 12) (hu : u ≤ 3300) : ∀ (d i k : Nat), i + d = b → d < k →
    spec_BitPut.l1 k xs (putN l u xs[j].f0 i) ((u + i : Nat) : Int) (j : Int) (i : Int) = spec_BitPut.l0 (k - d - 1) xs (putN l u xs[j].f0 b) ((u + b : Nat) : Int) ((j + 1 : Nat) : Int) := by
  intro d
  induction d with
  | zero =>
    intro i k hi hk
    obtain ⟨k, rfl⟩ : ∃ m, k = m + 1 := ⟨k - 1, by omega⟩
    obtain rfl : i = b := by omega
    simp only [spec_BitPut.l1]
    rw [rdT hj, hb, if_pos (by omega), if_pos (by omega), if_neg (by omega), w64 (by omega) (by omega), show k + 1 - 0 - 1 = k by omega, show ((j : Nat) : Int) + 1 = ((j + 1 : Nat) : Int) by omega]
  | succ d ih =>
    intro i k hi hk
    obtain ⟨k, rfl⟩ : ∃ m, k = m + 1 := ⟨k - 1, by omega⟩
    have hv := inv_putN h xs[j].f0 i
    have hlen := hv.len
    obtain ⟨g1, g2, g3, g4⟩ := gro_facts hv
    have hlen2 : (putN l u xs[j].f0 i).length ≤ 500 := by omega
    have hu2 : u + i ≤ 3311 := by omega
    have hq8 : (u + i) / 8 ≤ 500 := by omega
    obtain ⟨hq, hr⟩ := bit_place (u + i) (by omega)
    have e := ih (i + 1) k (by omega) (by omega)
    rw [show k + 1 - (d + 1) - 1 = k - d - 1 by omega, ← e]
    simp only [spec_BitPut.l1]
    rw [rdT hj, hb, if_pos (by omega), if_pos (by omega), if_pos (by omega), hq, hr]
    by_cases e8 : (u + i) % 8 = 0
    · have hgr : gro (putN l u xs[j].f0 i) (u + i) = putN l u xs[j].f0 i ++ [0] := by unfold gro; rw [if_pos e8]
      rw [hgr] at g1 g3 g4
      clear e hr hq hv ih hlen
      rw [if_pos (by omega), if_pos (by omega), Option.bind_some, if_pos (by omega), if_pos (by omega), if_pos (by omega), if_pos (by omega), rd_nat, specBit _ _ _ _ (by omega) g3 g4 h0 h1, w64 (by omega) (by omega), w64 (by omega) (by omega), Int.toNat_natCast, show putN l u xs[j].f0 (i + 1) = stp (putN l u xs[j].f0 i) (u + i) (xs[j].f0 / 2 ^ i % 2) from rfl]
      unfold stp
      rw [hgr, show ((u + i : Nat) : Int) + 1 = ((u + (i + 1) : Nat) : Int) by omega, show (i : Int) + 1 = ((i + 1 : Nat) : Int) by omega]
    · have hgr : gro (putN l u xs[j].f0 i) (u + i) = putN l u xs[j].f0 i := by unfold gro; rw [if_neg e8]
      rw [hgr] at g1 g3 g4
      clear e hr hq hv ih hlen
      rw [if_neg (by omega), if_pos (by omega), if_pos (by omega), if_pos (by omega), if_pos (by omega), rd_nat, specBit _ _ _ _ (by omega) g3 g4 h0 h1, w64 (by omega) (by omega), w64 (by omega) (by omega), Int.toNat_natCast, show putN l u xs[j].f0 (i + 1) = stp (putN l u xs[j].f0 i) (u + i) (xs[j].f0 / 2 ^ i % 2) from rfl]
      unfold stp
      rw [hgr, show ((u + i : Nat) : Int) + 1 = ((u + (i + 1) : Nat) : Int) by omega, show (i : Int) + 1 = ((i + 1 : Nat) : Int) by omega]
theorem specAll_over (xs : List S36) (i : Nat) (l : List Int) (u : Int) (h : (l.length : Int) > 400) (k : Nat) (hk : 2 ≤ k) : spec_BitPut.l0 k xs l u (i : Int) = some [] := by
  obtain ⟨k, rfl⟩ : ∃ m, k = m + 1 + 1 := ⟨k - 2, by omega⟩
  simp only [spec_BitPut.l0, spec_BitPut.j1]
  by_cases hi : (i : Int) < (xs.length : Int)
  · rw [if_pos hi, if_pos (by omega), specBitOk_ok, Option.bind_some]
    split
    · rw [decide_eq_true h]; rfl
    · rfl
  · rw [if_neg hi, if_pos h]
theorem specAll_l (xs : List S36) (hxl : xs.length ≤ 1099511627776) : ∀ (d i k : Nat) (l : List Int) (u : Nat), i + d = xs.length → 16 * d + 16 < k → Inv l u → u ≤ 3200 → spec_BitPut.l0 k xs l (u : Int) (i : Int) = some (res (xs.drop i) l u) := by
  intro d
  induction d with
  | zero =>
    intro i k l u hi hk hv hu
    obtain ⟨k, rfl⟩ : ∃ m, k = m + 1 := ⟨k - 1, by omega⟩
    have hlen := hv.len
    simp only [spec_BitPut.l0]
    rw [if_neg (by omega), if_neg (by omega), List.drop_eq_nil_of_le (by omega)]
    unfold res
    rw [if_pos ⟨(fun _ h => by cases h), by simp only [tb]; omega⟩]
    rfl
  | succ d ih =>
    intro i k l u hi hk hv hu
    obtain ⟨k, rfl⟩ : ∃ m, k = m + 1 + 1 := ⟨k - 2, by omega⟩
    have hlen := hv.len
    have hil : i < xs.length := by omega
    simp only [spec_BitPut.l0]
    rw [if_pos (by omega), if_pos (by omega), rdT hil, specBitOk_ok, Option.bind_some, drop_cons hil]
    by_cases hp : BitP xs[i].f0 xs[i].f1
    · obtain ⟨b1, b2, n0, n1⟩ := bitP_small hp
      rw [decide_eq_true hp, if_pos rfl, decide_eq_false (by omega)]
      simp only [spec_BitPut.j1]
      rw [if_neg (by decide)]
      obtain ⟨b, hb⟩ := Int.eq_ofNat_of_zero_le (show 0 ≤ xs[i].f1 by omega)
      have e := specPut_l xs i hil hxl hv b hb n0 n1 (by omega) (by omega) b 0 k (by omega) (by omega)
      rw [show putN l u xs[i].f0 0 = l from rfl, Nat.add_zero, show ((0 : Nat) : Int) = 0 from rfl] at e
      rw [e]
      have hv2 := inv_putN hv xs[i].f0 b
      by_cases ho : (u : Int) + xs[i].f1 ≤ 3200
      · rw [ih (i + 1) _ _ _ (by omega) (by omega) hv2 (by omega)]
        unfold res
        by_cases hg : PutOk (xs.drop (i + 1)) (u + b)
        · rw [if_pos hg, if_pos (good_cons.2 ⟨⟨hp, ho⟩, by rw [hb]; exact hg⟩)]
          simp only [putL]
          rw [hb]; rfl
        · rw [if_neg hg, if_neg (fun h => hg (by have := (good_cons.1 h).2; rw [hb] at this; exact this))]
      · have hl2 := hv2.len
        rw [specAll_over xs (i + 1) _ _ (by omega) _ (by omega)]
        unfold res
        rw [if_neg (fun h => ho (good_cons.1 h).1.2)]
    · rw [decide_eq_false hp, if_neg (by decide)]
      simp only [spec_BitPut.j1]
      rw [if_pos trivial]
      unfold res
      rw [if_neg (fun h => hp (good_cons.1 h).1.1)]
theorem specPut_ok (xs : List S36) (hxl : xs.length ≤ 1099511627776) (k : Nat) (hk : 16 * xs.length + 16 < k) : spec_BitPut.f k xs = some (res xs [] 0) := specAll_l xs hxl xs.length 0 k [] 0 (by omega) hk inv_nil (by omega)
theorem inv_res (xs : List S36) (_ : PutOk xs 0) : Inv (putL xs [] 0) (tb xs) := by have := inv_putL xs inv_nil; rwa [Nat.zero_add] at this
theorem res_bytes (xs : List S36) : Bytes (res xs [] 0) := by
  unfold res
  split
  · exact (inv_putL xs inv_nil).byt
  · exact bytes_nil
theorem res_len (xs : List S36) : (res xs [] 0).length ≤ 400 := by
  unfold res
  split
  · rename_i h
    have h1 := (inv_res xs h).len
    have h2 := h.2
    omega
  · simp
end Go.Proofs.Ytfnkaccncmjnaaa.Pl
namespace Go.Proofs.Ytfnkaccncmjnaaa.Pl
open Go Go.RowKit Go.Proofs.Ytfnkaccncmjnaaa.X Go.Proofs.YtfnkaccncmjnaaaW.PrintWords Go.Proofs.YtfnkaccncmjnaaaW.PrintLast Go.Proofs.YtfnkaccncmjnaaaW.PrintMore

def GetP (s : List Int) (a n : Int) : Prop := 0 ≤ a ∧ 1 ≤ n ∧ n ≤ 12 ∧ a + n ≤ 8 * (s.length : Int)
instance (s : List Int) (a n : Int) : Decidable (GetP s a n) := by unfold GetP; infer_instance
def getR (s : List Int) (a n : Int) : Int × Bool := if GetP s a n then (bitSum s a.toNat n.toNat, true) else (0, false)
theorem implGet_l (s : List Int) (hs : Bytes s) (hl : s.length ≤ 1099511627776) (a n : Nat) (hn : n ≤ 12) (han : a + n ≤ 8 * s.length) : ∀ (d i k : Nat), i + d = n → d < k →
    impl_bitReader_get.l0 k (bitSum s a i) (n : Int) (i : Int) s ((a + i : Nat) : Int) false = some (bitSum s a n, ((a + n : Nat) : Int), false) := by
  intro d
  induction d with
  | zero =>
    intro i k hi hk
    obtain ⟨k, rfl⟩ : ∃ m, k = m + 1 := ⟨k - 1, by omega⟩
    obtain rfl : i = n := by omega
    simp only [impl_bitReader_get.l0]
    rw [if_neg (by omega)]
  | succ d ih =>
    intro i k hi hk
    obtain ⟨k, rfl⟩ : ∃ m, k = m + 1 := ⟨k - 1, by omega⟩
    obtain ⟨hq, hr⟩ := bit_place (a + i) (by omega)
    have hlt := bitSum_lt s a i
    simp only [impl_bitReader_get.l0]
    rw [hq, hr, if_pos (by omega), if_pos (by omega), if_pos (by omega), if_pos (by omega), if_pos (by omega), bit_read hs, shl_bit _ _ (bitAt_01 _ _) (by omega), or_bit _ _ _ hlt.1 hlt.2 (bitAt_01 _ _) (by omega), w64 (by omega) (by omega), w64 (by omega) (by omega)]
    exact ih (i + 1) k (by omega) (by omega)
theorem implGet_ok (s : List Int) (hs : Bytes s) (hl : s.length ≤ 1099511627776) (a n : Int) (ha : a ≤ 9223372036854775807) (k : Nat) (hk : 14 ≤ k) : impl_BitGet.f k s a n = some (getR s a n) := by
  obtain ⟨k, rfl⟩ : ∃ m, k = m + 1 := ⟨k - 1, by omega⟩
  unfold impl_BitGet.f impl_bitReader_get.f getR
  rw [if_neg (by decide)]
  by_cases h1 : a < 0
  · rw [if_pos h1, if_neg (fun h => by have := h.1; omega)]; simp [impl_bitReader_get.j0]
  rw [if_neg h1]
  by_cases h2 : n < 1
  · rw [if_pos h2, if_neg (fun h => by have := h.2.1; omega)]; simp [impl_bitReader_get.j0]
  rw [if_neg h2]
  by_cases h3 : n > 12
  · rw [if_pos h3, if_neg (fun h => by have := h.2.2.1; omega)]; simp [impl_bitReader_get.j0]
  rw [if_neg h3, w64 (x := 8 * (s.length : Int)) (by omega) (by omega), w64 (by omega) (by omega)]
  by_cases h4 : 8 * (s.length : Int) - a < n
  · rw [decide_eq_true h4, if_neg (fun h => by have := h.2.2.2; omega)]; simp [impl_bitReader_get.j0]
  rw [decide_eq_false h4, if_pos ⟨by omega, by omega, by omega, by omega⟩]
  obtain ⟨a, rfl⟩ := Int.eq_ofNat_of_zero_le (show 0 ≤ a by omega)
  obtain ⟨n, rfl⟩ := Int.eq_ofNat_of_zero_le (show 0 ≤ n by omega)
  simp only [impl_bitReader_get.j0]
  rw [if_neg (by decide)]
  have := implGet_l s hs hl a n (by omega) (by omega) n 0 k (by omega) (by omega)
  rw [show bitSum s a 0 = 0 from rfl, show ((a + 0 : Nat) : Int) = (a : Int) by simp, show ((0 : Nat) : Int) = 0 from rfl] at this
  rw [this]; rfl
theorem specGet_l (s : List Int) (hs : Bytes s) (hl : s.length ≤ 1099511627776) (a n : Nat) (hn : n ≤ 12) (han : a + n ≤ 8 * s.length) : ∀ (d i k : Nat), i + d = n → d < k →
    spec_BitGet.l0 k s (a : Int) (n : Int) (bitSum s a i) (i : Int) = some (bitSum s a n, true) := by
  intro d
  induction d with
  | zero =>
    intro i k hi hk
    obtain ⟨k, rfl⟩ : ∃ m, k = m + 1 := ⟨k - 1, by omega⟩
    obtain rfl : i = n := by omega
    simp only [spec_BitGet.l0]
    rw [if_neg (by omega)]
  | succ d ih =>
    intro i k hi hk
    obtain ⟨k, rfl⟩ : ∃ m, k = m + 1 := ⟨k - 1, by omega⟩
    obtain ⟨hq, hr⟩ := bit_place (a + i) (by omega)
    have hlt := bitSum_lt s a i
    have hlt' := bitSum_lt s a (i + 1)
    have hp := pow_le' 12 (show i + 1 ≤ 12 by omega)
    have e12 : (2 : Int) ^ 12 = 4096 := by decide
    simp only [spec_BitGet.l0]
    rw [w64 (x := (a : Int) + (i : Int)) (by omega) (by omega), show (a : Int) + (i : Int) = ((a + i : Nat) : Int) by omega, hq, hr, if_pos (by omega), if_pos (by omega), if_pos (by omega), if_pos (by omega), if_pos (by omega), bit_read' hs, shl_bit _ _ (bitAt_01 _ _) (by omega), show bitSum s a i + bitAt s (a + i) * 2 ^ i = bitSum s a (i + 1) from rfl, w64 (by omega) (by omega), w64 (by omega) (by omega)]
    exact ih (i + 1) k (by omega) (by omega)
theorem specGet_ok (s : List Int) (hs : Bytes s) (hl : s.length ≤ 1099511627776) (a n : Int) (k : Nat) (hk : 14 ≤ k) : spec_BitGet.f k s a n = some (getR s a n) := by
  obtain ⟨k, rfl⟩ : ∃ m, k = m + 1 := ⟨k - 1, by omega⟩
  unfold spec_BitGet.f getR
  by_cases h1 : a < 0
  · rw [if_pos h1, if_neg (fun h => by have := h.1; omega)]; simp [spec_BitGet.j0]
  rw [if_neg h1, l1In_ok, Option.bind_some]
  by_cases h2 : 1 ≤ n ∧ n ≤ 12
  · rw [decide_eq_true h2, if_pos rfl, w64 (x := 8 * (s.length : Int)) (by omega) (by omega), w64 (by omega) (by omega)]
    by_cases h4 : a > 8 * (s.length : Int) - n
    · rw [decide_eq_true h4, if_neg (fun h => by have := h.2.2.2; omega)]; simp [spec_BitGet.j0]
    rw [decide_eq_false h4, if_pos ⟨by omega, by omega, by omega, by omega⟩]
    obtain ⟨a, rfl⟩ := Int.eq_ofNat_of_zero_le (show 0 ≤ a by omega)
    obtain ⟨n, rfl⟩ := Int.eq_ofNat_of_zero_le (show 0 ≤ n by omega)
    simp only [spec_BitGet.j0]
    rw [if_neg (by decide)]
    exact specGet_l s hs hl a n (by omega) (by omega) n 0 k (by omega) (by omega)
  · rw [decide_eq_false h2, if_neg (by decide), if_neg (fun h => h2 ⟨h.2.1, h.2.2.1⟩)]; simp [spec_BitGet.j0]
end Go.Proofs.Ytfnkaccncmjnaaa.Pl
namespace Go.Proofs.Ytfnkaccncmjnaaa.Pl
open Go Go.RowKit Go.Proofs.Ytfnkaccncmjnaaa.X Go.Proofs.YtfnkaccncmjnaaaW.PrintWords Go.Proofs.YtfnkaccncmjnaaaW.PrintLast Go.Proofs.YtfnkaccncmjnaaaW.PrintMore
theorem strs_inj {l m : List Int} (hl : Bytes l) (hm : Bytes m) (h : (strOfNums l).data.toList = (strOfNums m).data.toList) : l = m := by
  rw [strOfNums_data, strOfNums_data] at h
  induction l generalizing m with
  | nil => cases m with
    | nil => rfl
    | cons y m => simp at h
  | cons x l ih =>
    cases m with
    | nil => simp at h
    | cons y m =>
      simp only [List.map_cons, List.cons.injEq] at h
      obtain ⟨hx0, hx1⟩ := hl x (by simp)
      obtain ⟨hy0, hy1⟩ := hm y (by simp)
      have e : x = y := by
        have := congrArg UInt8.toNat h.1
        rw [UInt8.toNat_ofNat', UInt8.toNat_ofNat'] at this
        omega
      rw [e, ih (fun z hz => hl z (by simp [hz])) (fun z hz => hm z (by simp [hz])) h.2]
theorem eaBytes_core (l m : List Int) (hl : Bytes l) (hm : Bytes m) (A B : ByteArray) (hA : A = strOfNums l) (hB : B = strOfNums m) : (A.toList == B.toList) = decide (l = m) := by
  by_cases e : l = m
  · subst e; rw [hA, hB]; simp
  · have h2 : ¬ A.toList = B.toList := fun h => e (strs_inj hl hm (by rw [← hA, ← hB, ← ByteArray.toList_eq, ← ByteArray.toList_eq]; exact h))
    rw [beq_eq_false_iff_ne.mpr h2, decide_eq_false e]
theorem eaBytes_ok (l m : List Int) (hl : Bytes l) (hm : Bytes m) : laws_eaBytes.f l m = some (decide (l = m)) := by
  unfold laws_eaBytes.f
  rw [eaBytes_core l m hl hm _ _ rfl rfl]
theorem eaBytes_self (l : List Int) (hl : Bytes l) : laws_eaBytes.f l l = some true := by rw [eaBytes_ok l l hl hl, decide_eq_true rfl]
end Go.Proofs.Ytfnkaccncmjnaaa.Pl
namespace Go.Proofs.Ytfnkaccncmjnaaa.Pl
open Go Go.RowKit Go.Proofs.Ytfnkaccncmjnaaa.X
theorem pkGrow_ge (met : List (List Int)) (r : List Int) : ∀ f n, n ≤ pkGrow met r f n
  | 0, n => Nat.le_refl n
  | f + 1, n => by
    unfold pkGrow
    split
    · exact Nat.le_trans (Nat.le_succ n) (pkGrow_ge met r f (n + 1))
    · exact Nat.le_refl n
theorem pkGrow_le (met : List (List Int)) (r : List Int) : ∀ f n, n ≤ r.length → pkGrow met r f n ≤ r.length
  | 0, n, h => h
  | f + 1, n, h => by
    unfold pkGrow
    split
    · rename_i hc; exact pkGrow_le met r f (n + 1) hc.1
    · exact h
/-- The string is met, or one number alone. -/
theorem pkGrow_mem (met : List (List Int)) (r : List Int) : ∀ f n, (n = 1 ∨ r.take n ∈ met) → (pkGrow met r f n = 1 ∨ r.take (pkGrow met r f n) ∈ met)
  | 0, n, h => h
  | f + 1, n, h => by
    unfold pkGrow
    split
    · rename_i hc; exact pkGrow_mem met r f (n + 1) (Or.inr hc.2)
    · exact h
/-- One more is not met. -/
theorem pkGrow_stop (met : List (List Int)) (r : List Int) : ∀ f n, r.length ≤ f + n → ¬ (pkGrow met r f n < r.length ∧ r.take (pkGrow met r f n + 1) ∈ met)
  | 0, n, h => by unfold pkGrow; intro hc; omega
  | f + 1, n, h => by
    unfold pkGrow
    split
    · exact pkGrow_stop met r f (n + 1) (by omega)
    · rename_i hc; exact hc
/-- The search goes on as far as it goes. -/
theorem pkGrow_eq (met : List (List Int)) (r : List Int) : ∀ f n m, n ≤ m → m ≤ f + n → (∀ i, n ≤ i → i < m → i < r.length ∧ r.take (i + 1) ∈ met) → ¬ (m < r.length ∧ r.take (m + 1) ∈ met) → pkGrow met r f n = m
  | 0, n, m, h1, h2, _, _ => by unfold pkGrow; omega
  | f + 1, n, m, h1, h2, h3, h4 => by
    unfold pkGrow
    rcases Nat.lt_or_ge n m with h | h
    · rw [if_pos (h3 n (Nat.le_refl n) h)]
      exact pkGrow_eq met r f (n + 1) m h (by omega) (fun i h5 h6 => h3 i (by omega) h6) h4
    · obtain rfl : n = m := by omega
      rw [if_neg h4]
theorem pkLen_pos (met : List (List Int)) (r : List Int) : 1 ≤ pkLen met r := pkGrow_ge met r r.length 1
theorem pkLen_le (met : List (List Int)) {r : List Int} (h : r ≠ []) : pkLen met r ≤ r.length := by
  have : r.length ≠ 0 := fun e => h (List.length_eq_zero_iff.mp e)
  exact pkGrow_le met r r.length 1 (by omega)
theorem pkLen_mem (met : List (List Int)) (r : List Int) : pkLen met r = 1 ∨ r.take (pkLen met r) ∈ met := pkGrow_mem met r r.length 1 (Or.inl rfl)
theorem pkLen_stop (met : List (List Int)) (r : List Int) : ¬ (pkLen met r < r.length ∧ r.take (pkLen met r + 1) ∈ met) := pkGrow_stop met r r.length 1 (by omega)
theorem pkAt_mem {met : List (List Int)} {s : List Int} (h : s ∈ met) : ∃ hk : pkAt met s < met.length, met[pkAt met s] = s := by
  have h1 : pkAt met s < met.length := List.findIdx_lt_length_of_exists ⟨s, h, beq_self_eq_true s⟩
  exact ⟨h1, eq_of_beq (List.findIdx_getElem (w := h1))⟩
theorem pkAt_none {met : List (List Int)} {s : List Int} (h : s ∉ met) : pkAt met s = met.length := by
  unfold pkAt
  rw [List.findIdx_eq_length]
  intro x hx
  cases hb : (x == s) with
  | false => rfl
  | true => exact absurd (eq_of_beq hb ▸ hx) h
theorem pkMet_len (met : List (List Int)) (r : List Int) (n : Nat) : (pkMet met r n).length ≤ met.length + 1 := by
  unfold pkMet; split <;> simp
/-- One step of unpacking: what was unpacked, what was met, and the last string. -/
def pkStep (_ : List Int) (met : List (List Int)) (last : List Int) (c : Int) : Option (List Int) :=
  if c < 256 then some [c] else if c - 257 < 0 then none else if c - 257 < (met.length : Int) then met[(c - 257).toNat]? else if c - 257 = (met.length : Int) ∧ last ≠ [] then some (last ++ [last.headD 0]) else none
def pkMore (met : List (List Int)) (last b : List Int) : List (List Int) := if last ≠ [] then met ++ [last ++ [b.headD 0]] else met
/-- Codes unpacked; nothing, if one is none, or there are too many bytes. -/
def pkDec : List Int → List Int → List (List Int) → List Int → Option (List Int)
  | [], o, _, _ => some o
  | c :: cs, o, met, last => (pkStep o met last c).bind fun b => if o.length + b.length ≤ 200 then pkDec cs (o ++ b) (pkMore met last b) b else none
theorem headD_append {l m : List Int} (h : l ≠ []) : (l ++ m).headD 0 = l.headD 0 := by
  cases l with
  | nil => exact absurd rfl h
  | cons x l => rfl
theorem headD_take {l : List Int} {n : Nat} (h : 1 ≤ n) : (l.take n).headD 0 = l.headD 0 := by
  cases l with
  | nil => simp
  | cons x l => obtain ⟨m, rfl⟩ : ∃ m, n = m + 1 := ⟨n - 1, by omega⟩; simp
theorem take_succ_drop {l : List Int} {n : Nat} (h : n < l.length) : l.take (n + 1) = l.take n ++ [(l.drop n).headD 0] := by
  rw [List.take_succ_eq_append_getElem h, List.drop_eq_getElem_cons h]; rfl
/-- What the packer has met is what the unpacker has, and one more, of the last string and the next number. -/
theorem pkDec_enc : ∀ (f : Nat) (r o : List Int) (met : List (List Int)) (last : List Int), r.length ≤ f → (∀ x ∈ r, 0 ≤ x ∧ x < 256) → o.length + r.length ≤ 200 → (∀ s ∈ met, s ≠ []) →
    pkDec (pkEnc f (if last ≠ [] ∧ r ≠ [] then met ++ [last ++ [r.headD 0]] else met) r) o met last = some (o ++ r)
  | 0, r, o, met, last, h, _, _, _ => by
    obtain rfl : r = [] := List.length_eq_zero_iff.mp (by omega)
    simp [pkEnc, pkDec]
  | f + 1, r, o, met, last, h, hb, ho, hm => by
    by_cases hr : r = []
    · subst hr; simp [pkEnc, pkDec]
    generalize hmE : (if last ≠ [] ∧ r ≠ [] then met ++ [last ++ [r.headD 0]] else met) = mE
    unfold pkEnc
    rw [if_neg hr]
    have h1 := pkLen_pos mE r
    have h2 := pkLen_le mE hr
    have h3 := pkLen_mem mE r
    generalize pkLen mE r = n at h1 h2 h3 ⊢
    have hs : r.take n ≠ [] := by
      intro e
      have := congrArg List.length e
      rw [List.length_take, List.length_nil] at this; omega
    have hsl : (r.take n).length = n := by rw [List.length_take]; omega
    have hstep : pkStep o met last (pkCode mE (r.take n)) = some (r.take n) := by
      unfold pkCode
      rw [hsl]
      by_cases hn : n = 1
      · subst hn
        rw [if_pos rfl, headD_take (Nat.le_refl 1)]
        cases r with
        | nil => exact absurd rfl hr
        | cons x r =>
          have := hb x (by simp)
          unfold pkStep
          rw [if_pos (by show x < 256; omega)]; rfl
      · rw [if_neg hn]
        have hmem : r.take n ∈ mE := h3.resolve_left hn
        obtain ⟨hk, he⟩ := pkAt_mem hmem
        unfold pkStep
        generalize pkAt mE (r.take n) = k at hk he
        rw [if_neg (by omega), if_neg (by omega), show (257 + (k : Int) - 257) = (k : Int) by omega]
        by_cases hkm : k < met.length
        · rw [if_pos (by omega), Int.toNat_natCast, List.getElem?_eq_getElem hkm]
          congr 1
          rw [← he]
          subst hmE
          split
          · rw [List.getElem_append_left hkm]
          · rfl
        · have hlast : last ≠ [] ∧ r ≠ [] := by
            refine Classical.byContradiction fun hc => ?_
            rw [if_neg hc] at hmE
            subst hmE
            exact hkm hk
          rw [if_pos hlast] at hmE
          have hke : k = met.length := by
            subst hmE; rw [List.length_append, List.length_singleton] at hk; omega
          subst hke
          subst hmE
          rw [if_neg (by omega), if_pos ⟨rfl, hlast.1⟩]
          have e2 : last ++ [r.headD 0] = r.take n := by
            rw [← he, List.getElem_append_right (Nat.le_refl _)]; simp
          rw [← e2]
          have e3 : r.headD 0 = last.headD 0 := by
            rw [← headD_take (l := r) h1, ← e2, headD_append hlast.1]
          rw [e3]
    unfold pkDec
    rw [hstep, Option.bind_some, hsl, if_pos (by omega)]
    have hmet : pkMet mE r n = (if r.take n ≠ [] ∧ r.drop n ≠ [] then pkMore met last (r.take n) ++ [r.take n ++ [(r.drop n).headD 0]] else pkMore met last (r.take n)) := by
      have hE : mE = pkMore met last (r.take n) := by
        unfold pkMore
        rw [headD_take h1, ← hmE]
        by_cases hl : last = []
        · simp [hl]
        · rw [if_pos ⟨hl, hr⟩, if_pos hl]
      unfold pkMet
      rw [← hE]
      by_cases hlt : n < r.length
      · rw [if_pos hlt, if_pos ⟨hs, by intro e; rw [List.drop_eq_nil_iff] at e; omega⟩, take_succ_drop hlt]
      · rw [if_neg hlt, if_neg (by intro hc; exact hc.2 (List.drop_eq_nil_iff.mpr (by omega)))]
    rw [hmet, pkDec_enc f (r.drop n) (o ++ r.take n) _ (r.take n) (by rw [List.length_drop]; omega) (fun x hx => hb x (List.mem_of_mem_drop hx)) (by rw [List.length_append, hsl, List.length_drop]; omega) ?_, List.append_assoc, List.take_append_drop]
    intro s hs2
    unfold pkMore at hs2
    split at hs2
    · rcases List.mem_append.mp hs2 with h4 | h4
      · exact hm s h4
      · rw [List.mem_singleton.mp h4]; simp
    · exact hm s hs2
theorem pkDec_codes (l : List Int) (h : ∀ x ∈ l, 0 ≤ x ∧ x < 256) (hl : l.length ≤ 200) : pkDec (pkCodes l) [] [] [] = some l := by
  have := pkDec_enc l.length l [] [] [] (Nat.le_refl _) h (by simpa using hl) (by simp)
  simpa [pkCodes] using this
/-- Each code is one of nine bits, and not the end's. -/
theorem pkEnc_code : ∀ (f : Nat) (met : List (List Int)) (r : List Int), r.length ≤ f → (∀ x ∈ r, 0 ≤ x ∧ x < 256) → met.length + r.length ≤ 255 → ∀ c ∈ pkEnc f met r, 0 ≤ c ∧ c < 512 ∧ c ≠ 256
  | 0, met, r, _, _, _, c, hc => by simp [pkEnc] at hc
  | f + 1, met, r, h, hb, hl, c, hc => by
    unfold pkEnc at hc
    by_cases hr : r = []
    · simp [hr] at hc
    rw [if_neg hr] at hc
    have h1 := pkLen_pos met r
    have h2 := pkLen_le met hr
    have h3 := pkLen_mem met r
    generalize pkLen met r = n at h1 h2 h3 hc
    rcases List.mem_cons.mp hc with rfl | hc
    · unfold pkCode
      have hsl : (r.take n).length = n := by rw [List.length_take]; omega
      rw [hsl]
      by_cases hn : n = 1
      · rw [if_pos hn, headD_take h1]
        cases r with
        | nil => exact absurd rfl hr
        | cons x r => have := hb x (by simp); show 0 ≤ x ∧ x < 512 ∧ x ≠ 256; omega
      · rw [if_neg hn]
        obtain ⟨hk, _⟩ := pkAt_mem (h3.resolve_left hn)
        have : r.length ≠ 0 := by omega
        omega
    · exact pkEnc_code f _ (r.drop n) (by rw [List.length_drop]; omega) (fun x hx => hb x (List.mem_of_mem_drop hx)) (by have := pkMet_len met r n; rw [List.length_drop]; omega) c hc
theorem pkEnc_len : ∀ (f : Nat) (met : List (List Int)) (r : List Int), r.length ≤ f → (pkEnc f met r).length ≤ r.length
  | 0, met, r, h => by simp [pkEnc]
  | f + 1, met, r, h => by
    unfold pkEnc
    by_cases hr : r = []
    · simp [hr]
    rw [if_neg hr, List.length_cons]
    have h1 := pkLen_pos met r
    have h2 := pkLen_le met hr
    have := pkEnc_len f (pkMet met r (pkLen met r)) (r.drop (pkLen met r)) (by rw [List.length_drop]; omega)
    rw [List.length_drop] at this
    omega
end Go.Proofs.Ytfnkaccncmjnaaa.Pl
namespace Go.Proofs.Ytfnkaccncmjnaaa.Pl
open Go Go.RowKit Go.Proofs.Ytfnkaccncmjnaaa.X Go.Proofs.YtfnkaccncmjnaaaW.PrintWords Go.Proofs.YtfnkaccncmjnaaaW.PrintLast Go.Proofs.YtfnkaccncmjnaaaW.PrintMore
/-- Nothing but noughts of the last byte lies from a bit on. -/
def EndP (s : List Int) (u : Nat) : Prop := s.length = (u + 7) / 8 ∧ (u % 8 = 0 ∨ s.getD (u / 8) 0 / 2 ^ (u % 8) = 0)
instance (s : List Int) (u : Nat) : Decidable (EndP s u) := by unfold EndP; infer_instance
def pkNext (_ o : List Int) (met : List (List Int)) (last : List Int) (c : Int) (go : List Int → List (List Int) → List Int → List Int × Bool) : List Int × Bool :=
  match pkStep o met last c with
  | none => ([], false)
  | some b => if o.length + b.length ≤ 200 then go (o ++ b) (pkMore met last b) b else ([], false)
/-- Unpacking, code by code. -/
def pkRun (s : List Int) : Nat → Nat → List Int → List (List Int) → List Int → List Int × Bool
  | 0, _, _, _, _ => ([], false)
  | d + 1, a, o, met, last =>
    if GetP s (a : Int) 9 then
      if bitSum s a 9 = 256 then (if EndP s (a + 9) then (o, true) else ([], false))
      else pkNext s o met last (bitSum s a 9) (fun o met last => pkRun s d (a + 9) o met last)
    else ([], false)
def pkGetR (s : List Int) : List Int × Bool := pkRun s 201 0 [] [] []
/-- What was met so far: none is empty, and there are no more than bytes. -/
def MetP (o : List Int) (met : List (List Int)) (last : List Int) : Prop := (∀ s ∈ met, s ≠ []) ∧ met.length ≤ o.length ∧ o.length ≤ 200 ∧ (last = [] ↔ o = []) ∧ last.length ≤ o.length ∧ ∀ s ∈ met, s.length ≤ 201
theorem pow9 : (2 : Int) ^ 9 = 512 := by decide
theorem code_in (s : List Int) (a : Nat) : 0 ≤ bitSum s a 9 ∧ bitSum s a 9 < 512 := by have := bitSum_lt s a 9; rwa [pow9] at this
theorem step_ne {o : List Int} {met : List (List Int)} {last b : List Int} {c : Int} (hm : MetP o met last) (h : pkStep o met last c = some b) : b ≠ [] ∧ b.length ≤ 201 := by
  unfold pkStep at h
  split at h
  · injection h with h; subst h; simp
  · split at h
    · cases h
    · split at h
      · have := List.mem_of_getElem? h
        exact ⟨hm.1 _ this, hm.2.2.2.2.2 _ this⟩
      · split at h
        · injection h with h
          subst h
          have h1 := hm.2.2.2.2.1
          have h2 := hm.2.2.1
          exact ⟨by simp, by rw [List.length_append, List.length_singleton]; omega⟩
        · cases h
theorem metP_next {o : List Int} {met : List (List Int)} {last b : List Int} {c : Int} (hm : MetP o met last) (h : pkStep o met last c = some b) (hl : o.length + b.length ≤ 200) : MetP (o ++ b) (pkMore met last b) b := by
  obtain ⟨hb, hb2⟩ := step_ne hm h
  have hb1 : b.length ≠ 0 := fun e => hb (List.length_eq_zero_iff.mp e)
  obtain ⟨h1, h2, h3, h4, h5, h6⟩ := hm
  refine ⟨?_, ?_, by rw [List.length_append]; exact hl, ⟨fun e => absurd e hb, fun e => absurd (List.append_eq_nil_iff.mp e).2 hb⟩, by rw [List.length_append]; omega, ?_⟩
  · unfold pkMore
    split
    · intro s hs
      rcases List.mem_append.mp hs with hs | hs
      · exact h1 s hs
      · rw [List.mem_singleton.mp hs]; simp
    · exact h1
  · rw [List.length_append]
    unfold pkMore
    split
    · rw [List.length_append, List.length_singleton]; omega
    · omega
  · unfold pkMore
    split
    · intro s hs
      rcases List.mem_append.mp hs with hs | hs
      · exact h6 s hs
      · rw [List.mem_singleton.mp hs, List.length_append, List.length_singleton]; omega
    · exact h6
theorem metP_nil : MetP [] [] [] := ⟨(fun s h => absurd h List.not_mem_nil), Nat.le_refl _, by simp, Iff.rfl, Nat.le_refl _, (fun s h => absurd h List.not_mem_nil)⟩
/-! The program. -/
theorem implRead_ok (s : List Int) (hs : Bytes s) (hl : s.length ≤ 1099511627776) (a : Nat) (ha : a ≤ 4611686018427387904) (k : Nat) (hk : 14 ≤ k) :
    impl_bitReader_get.f k s (a : Int) false 9 = some (if GetP s (a : Int) 9 then (bitSum s a 9, ((a + 9 : Nat) : Int), false) else (0, (a : Int), true)) := by
  obtain ⟨k, rfl⟩ : ∃ m, k = m + 1 := ⟨k - 1, by omega⟩
  unfold impl_bitReader_get.f
  rw [if_neg (by decide), if_neg (by omega), if_neg (by decide), if_neg (by decide), w64 (x := 8 * (s.length : Int)) (by omega) (by omega), w64 (by omega) (by omega)]
  by_cases h4 : 8 * (s.length : Int) - (a : Int) < 9
  · rw [decide_eq_true h4, if_neg (fun h => by have := h.2.2.2; omega)]; simp [impl_bitReader_get.j0]
  · rw [decide_eq_false h4, if_pos ⟨by omega, by omega, by omega, by omega⟩]
    simp only [impl_bitReader_get.j0]
    rw [if_neg (by decide)]
    have := implGet_l s hs hl a 9 (by omega) (by omega) 9 0 k (by omega) (by omega)
    rw [show bitSum s a 0 = 0 from rfl, show ((a + 0 : Nat) : Int) = (a : Int) by simp, show ((0 : Nat) : Int) = 0 from rfl] at this
    exact this
theorem implTail_ok (s : List Int) (u : Nat) (hu : u ≤ 4611686018427387000) : impl_pakTail.f s (u : Int) = some (decide (EndP s u)) := by
  unfold impl_pakTail.f
  obtain ⟨hq, hr⟩ := bit_place u (by omega)
  rw [w64 (x := (u : Int) + 7) (by omega) (by omega), show (u : Int) + 7 = ((u + 7 : Nat) : Int) by omega, (bit_place (u + 7) (by omega)).1, hq, hr]
  by_cases h1 : s.length = (u + 7) / 8
  · rw [if_pos (by omega)]
    by_cases h2 : u % 8 = 0
    · rw [if_pos (by omega), decide_eq_true (show EndP s u from ⟨h1, .inl h2⟩)]
    · rw [if_neg (by omega), if_pos (by omega), if_pos (by omega), if_pos (by omega), shr_ok _ _ _ (by show u % 8 ≤ 8; omega), rd_nat]
      congr 1
      by_cases h3 : s.getD (u / 8) 0 / 2 ^ (u % 8) = 0
      · rw [decide_eq_true (show EndP s u from ⟨h1, .inr h3⟩), h3]; rfl
      · rw [decide_eq_false (show ¬ EndP s u from fun h => h.2.elim h2 h3)]
        exact beq_eq_false_iff_ne.mpr h3
  · rw [if_neg (by omega), decide_eq_false (show ¬ EndP s u from fun h => h1 h.1)]
/-- The strings so far, by where they stand in what was unpacked. -/
def SpotP (o : List Int) (sp : List S36) (met : List (List Int)) : Prop := sp.length = met.length ∧ ∀ (i : Nat) (x : S36) (s : List Int), sp[i]? = some x → met[i]? = some s → 0 ≤ x.f0 ∧ 1 ≤ x.f1 ∧ x.f0 + x.f1 ≤ (o.length : Int) ∧ s = (o.drop x.f0.toNat).take x.f1.toNat
theorem spotP_more {o b : List Int} {sp : List S36} {met : List (List Int)} (h : SpotP o sp met) : SpotP (o ++ b) sp met := by
  refine ⟨h.1, fun i x s hx hs => ?_⟩
  obtain ⟨h1, h2, h3, h4⟩ := h.2 i x s hx hs
  refine ⟨h1, h2, by rw [List.length_append]; omega, ?_⟩
  rw [h4, List.drop_append_of_le_length (by omega), List.take_append_of_le_length (by rw [List.length_drop]; omega)]
theorem drop_take_next (o : List Int) (a i : Nat) (h : a + i < o.length) : (o.drop a).take (i + 1) = (o.drop a).take i ++ [o[a + i]] := by
  rw [List.take_succ_eq_append_getElem (by rw [List.length_drop]; omega), List.getElem_drop]
theorem copy_in (o : List Int) (a : Nat) : ∀ (n i : Nat), a + i + n ≤ o.length → 2 * o.length ≤ 100000 → pk_copy (a : Int) n i (o ++ (o.drop a).take i) = some (o ++ (o.drop a).take (i + n))
  | 0, i, _, _ => rfl
  | n + 1, i, h, hl => by
    have hi : ((o.drop a).take i).length = i := by rw [List.length_take, List.length_drop]; omega
    unfold pk_copy
    rw [if_pos ⟨by omega, by rw [List.length_append, hi]; omega, by rw [List.length_append, hi]; omega⟩]
    have e : rd (o ++ (o.drop a).take i) ((a : Int) + (i : Int)) = o[a + i] := by
      rw [show (a : Int) + (i : Int) = ((a + i : Nat) : Int) by omega, rd_lt (by rw [List.length_append, hi]; omega), List.getElem_append_left (by omega)]
    rw [e, List.append_assoc, ← drop_take_next o a i (by omega), copy_in o a n (i + 1) (by omega) hl, show i + 1 + n = i + (n + 1) by omega]
theorem copy_over (o : List Int) (a : Nat) (ha : a < o.length) : ∀ (n i : Nat), a + i + n = o.length → 2 * o.length ≤ 100000 → pk_copy (a : Int) (n + 1) i (o ++ (o.drop a).take i) = some (o ++ (o.drop a ++ [(o.drop a).headD 0]))
  | 0, i, h, hl => by
    have hi : (o.drop a).take i = o.drop a := List.take_of_length_le (by rw [List.length_drop]; omega)
    have hd : (o.drop a).length = i := by rw [List.length_drop]; omega
    rw [hi]
    unfold pk_copy
    rw [if_pos ⟨by omega, by rw [List.length_append, hd]; omega, by rw [List.length_append, hd]; omega⟩]
    have e : rd (o ++ o.drop a) ((a : Int) + (i : Int)) = (o.drop a).headD 0 := by
      rw [show (a : Int) + (i : Int) = ((a + i : Nat) : Int) by omega, rd_nat, List.getD_eq_getElem?_getD, List.getElem?_append_right (by omega), show a + i - o.length = 0 by omega]
      cases o.drop a <;> rfl
    rw [e, List.append_assoc]
    rfl
  | n + 1, i, h, hl => by
    have hi : ((o.drop a).take i).length = i := by rw [List.length_take, List.length_drop]; omega
    unfold pk_copy
    rw [if_pos ⟨by omega, by rw [List.length_append, hi]; omega, by rw [List.length_append, hi]; omega⟩]
    have e : rd (o ++ (o.drop a).take i) ((a : Int) + (i : Int)) = o[a + i] := by
      rw [show (a : Int) + (i : Int) = ((a + i : Nat) : Int) by omega, rd_lt (by rw [List.length_append, hi]; omega), List.getElem_append_left (by omega)]
    rw [e, List.append_assoc, ← drop_take_next o a i (by omega)]
    exact copy_over o a ha n (i + 1) (by omega) hl
/-- One code, by the program. -/
theorem implTake_ok {o : List Int} {sp : List S36} {met : List (List Int)} {last : List Int} {la ls c : Int} (hs : SpotP o sp met) (hm : MetP o met last) (ha : 0 ≤ la ∧ 0 ≤ ls ∧ la + ls = (o.length : Int) ∧ last = o.drop la.toNat ∧ (o ≠ [] → la < (o.length : Int))) (hc0 : 0 ≤ c) (hc1 : c < 512) (hc2 : c ≠ 256) :
    ∃ r, pk_take o sp la ls c = some r ∧ (match pkStep o met last c with
      | none => r = none
      | some b => ∃ sp', r = some (o ++ b, sp') ∧ SpotP (o ++ b) sp' (pkMore met last b)) := by
  obtain ⟨a0, a1, a2, a3, a4⟩ := ha
  obtain ⟨m1, m2, m3, m4, m5, m6⟩ := hm
  have hsl := hs.1
  have hgl : pk_grow o sp la ls = if last ≠ [] then sp ++ [⟨la, ls + 1⟩] else sp := by
    unfold pk_grow
    by_cases ho : o = []
    · rw [if_neg (by rw [ho]; simp), if_neg (by simp [m4.mpr ho])]
    · have : o.length ≠ 0 := fun e => ho (List.length_eq_zero_iff.mp e)
      rw [if_pos ⟨by omega, by omega⟩, if_pos (fun e => ho (m4.mp e))]
  -- what is met behind the code
  have hnew : ∀ b : List Int, b ≠ [] → SpotP (o ++ b) (pk_grow o sp la ls) (pkMore met last b) := by
    intro b hb
    rw [hgl]
    unfold pkMore
    by_cases hl : last = []
    · rw [if_neg (by simp [hl]), if_neg (by simp [hl])]
      exact spotP_more hs
    · rw [if_pos hl, if_pos hl]
      refine ⟨by simp [hsl], fun i x s hx hs2 => ?_⟩
      have hb1 : b.length ≠ 0 := fun e => hb (List.length_eq_zero_iff.mp e)
      by_cases hi : i < sp.length
      · rw [List.getElem?_append_left hi] at hx
        rw [List.getElem?_append_left (by omega)] at hs2
        exact (spotP_more hs).2 i x s hx hs2
      · by_cases hi2 : i = sp.length
        · subst hi2
          rw [List.getElem?_append_right (Nat.le_refl _)] at hx
          rw [hsl, List.getElem?_append_right (Nat.le_refl _)] at hs2
          simp only [Nat.sub_self, List.getElem?_cons_zero, Option.some.injEq] at hx hs2
          subst hx hs2
          refine ⟨a0, by show 1 ≤ ls + 1; omega, by rw [List.length_append]; show la + (ls + 1) ≤ _; omega, ?_⟩
          show last ++ [b.headD 0] = ((o ++ b).drop la.toNat).take (ls + 1).toNat
          rw [List.drop_append_of_le_length (by omega), ← a3]
          have hll : last.length = ls.toNat := by rw [a3, List.length_drop]; omega
          rw [show (ls + 1).toNat = last.length + 1 by omega, List.take_append, List.take_of_length_le (by omega), show last.length + 1 - last.length = 1 by omega]
          cases b with
          | nil => exact absurd rfl hb
          | cons y b => rfl
        · rw [List.getElem?_eq_none (by simp; omega)] at hx; cases hx
  unfold pk_take
  rw [if_pos ⟨a0, by omega, a1, by omega, by omega, by omega, hc0, by omega⟩]
  by_cases h1 : c < 256
  · rw [if_pos h1]
    refine ⟨_, rfl, ?_⟩
    unfold pkStep
    rw [if_pos h1]
    exact ⟨_, rfl, hnew [c] (by simp)⟩
  · rw [if_neg h1]
    have hglen : (pk_grow o sp la ls).length = if last ≠ [] then met.length + 1 else met.length := by
      rw [hgl]; split <;> simp [hsl]
    unfold pkStep
    rw [if_neg h1, if_neg (show ¬ c - 257 < 0 by omega)]
    obtain ⟨j, hj⟩ : ∃ j : Nat, c - 257 = (j : Int) := ⟨(c - 257).toNat, by omega⟩
    rw [hj]
    by_cases h2 : j < met.length
    · have hgj : (pk_grow o sp la ls)[j]? = sp[j]? := by
        rw [hgl]; split
        · rw [List.getElem?_append_left (by omega)]
        · rfl
      have hsj : sp[j]? = some sp[j] := List.getElem?_eq_getElem (by omega)
      have hmj : met[j]? = some met[j] := List.getElem?_eq_getElem h2
      obtain ⟨f0, f1, f2, f3⟩ := hs.2 j _ _ hsj hmj
      have hrd : rd_T36 (pk_grow o sp la ls) (j : Int) = sp[j] := by
        unfold rd_T36
        rw [Int.toNat_natCast, List.getD_eq_getElem?_getD, hgj, hsj]; rfl
      rw [if_pos (show (j : Int) < (met.length : Int) by omega), Int.toNat_natCast, hmj, if_pos (show 257 ≤ c ∧ (j : Int) < ((pk_grow o sp la ls).length : Int) from ⟨by omega, by rw [hglen]; split <;> omega⟩), hrd, if_pos (show 0 ≤ sp[j].f1 ∧ sp[j].f1 ≤ 1000 from ⟨by omega, by omega⟩)]
      have hcp := copy_in o sp[j].f0.toNat sp[j].f1.toNat 0 (by omega) (by omega)
      rw [List.take_zero, List.append_nil, Nat.zero_add, ← f3, Int.toNat_of_nonneg f0] at hcp
      rw [hcp, Option.bind_some]
      exact ⟨_, rfl, _, rfl, hnew _ (m1 _ (List.getElem_mem h2))⟩
    · rw [if_neg (show ¬ (j : Int) < (met.length : Int) by omega)]
      by_cases h3 : j = met.length ∧ last ≠ []
      · obtain ⟨rfl, h4⟩ := h3
        have ho : o ≠ [] := fun e => h4 (m4.mpr e)
        have hla := a4 ho
        have hrd : rd_T36 (pk_grow o sp la ls) (met.length : Int) = ⟨la, ls + 1⟩ := by
          unfold rd_T36
          rw [Int.toNat_natCast, List.getD_eq_getElem?_getD, hgl, if_pos h4, ← hsl, List.getElem?_append_right (Nat.le_refl _), Nat.sub_self]; rfl
        rw [if_pos (show (met.length : Int) = (met.length : Int) ∧ last ≠ [] from ⟨rfl, h4⟩), if_pos (show 257 ≤ c ∧ (met.length : Int) < ((pk_grow o sp la ls).length : Int) from ⟨by omega, by rw [hglen, if_pos h4]; omega⟩), hrd, if_pos (show 0 ≤ ls + 1 ∧ ls + 1 ≤ 1000 from ⟨by omega, by omega⟩)]
        dsimp only
        have hcp := copy_over o la.toNat (by omega) ls.toNat 0 (by omega) (by omega)
        rw [List.take_zero, List.append_nil, ← a3, Int.toNat_of_nonneg a0] at hcp
        rw [show (ls + 1).toNat = ls.toNat + 1 by omega, hcp, Option.bind_some]
        exact ⟨_, rfl, _, rfl, hnew _ (by simp)⟩
      · rw [if_neg (show ¬ ((j : Int) = (met.length : Int) ∧ last ≠ []) from fun h => h3 ⟨by omega, h.2⟩), if_neg (show ¬ (257 ≤ c ∧ (j : Int) < ((pk_grow o sp la ls).length : Int)) from fun h => h3 (by
          have h5 := h.2
          rw [hglen] at h5
          by_cases hl : last ≠ []
          · rw [if_pos hl] at h5; exact ⟨by omega, hl⟩
          · rw [if_neg hl] at h5; omega))]
        exact ⟨_, rfl, rfl⟩
theorem implRun_ok (s : List Int) (hs : Bytes s) (hl : s.length ≤ 1099511627776) : ∀ (d a k : Nat) (o : List Int) (sp : List S36) (met : List (List Int)) (last : List Int) (la ls : Int), o.length + d ≥ 201 → a ≤ 1000000 - 9 * d → d ≤ 201 → 2 * d + 20 ≤ k →
    SpotP o sp met → MetP o met last → (0 ≤ la ∧ 0 ≤ ls ∧ la + ls = (o.length : Int) ∧ last = o.drop la.toNat ∧ (o ≠ [] → la < (o.length : Int))) → impl_PakGet.l0 k s (a : Int) false o sp la ls = some (pkRun s d a o met last) := by
  intro d
  induction d with
  | zero =>
    intro a k o sp met last la ls h1 _ _ _ _ hm _
    have := hm.2.2.1
    omega
  | succ d ih =>
    intro a k o sp met last la ls h1 h2 h3 hk hsp hm ha
    obtain ⟨k, rfl⟩ : ∃ m, k = m + 1 + 1 := ⟨k - 2, by omega⟩
    simp only [impl_PakGet.l0]
    unfold pkRun
    rw [implRead_ok s hs hl a (by omega) (k + 1) (by omega), Option.bind_some]
    by_cases hg : GetP s (a : Int) 9
    · rw [if_pos hg, if_pos hg, if_neg Bool.false_ne_true]
      by_cases h6 : bitSum s a 9 = 256
      · rw [if_pos h6, if_pos h6, implTail_ok s (a + 9) (by omega), Option.bind_some]
        by_cases he : EndP s (a + 9)
        · rw [decide_eq_true he, if_pos rfl, if_pos he]
        · rw [decide_eq_false he, if_neg (by decide), if_neg he]
      · rw [if_neg h6, if_neg h6]
        obtain ⟨c0, c1⟩ := code_in s a
        obtain ⟨r, hr, hst⟩ := implTake_ok hsp hm ha c0 c1 h6
        have hn : ∀ b, pkStep o met last (bitSum s a 9) = some b → b ≠ [] := fun b hb => (step_ne hm hb).1
        have hmn : ∀ b, pkStep o met last (bitSum s a 9) = some b → o.length + b.length ≤ 200 → MetP (o ++ b) (pkMore met last b) b := fun b hb => metP_next hm hb
        rw [hr, Option.bind_some]
        simp only [impl_PakGet.j0]
        unfold pkNext
        generalize pkStep o met last (bitSum s a 9) = st at hst hn hmn
        cases st with
        | none =>
          dsimp only at hst
          subst hst
          rfl
        | some b =>
          dsimp only at hst ⊢
          obtain ⟨sp', rfl, hsp'⟩ := hst
          have hb := hn b rfl
          have hb1 : b.length ≠ 0 := fun e => hb (List.length_eq_zero_iff.mp e)
          by_cases hf : o.length + b.length ≤ 200
          · rw [if_pos hf, if_pos (show pk_fits (some (o ++ b, sp')) = true from decide_eq_true (by rw [List.length_append]; omega))]
            show impl_PakGet.l0 k s ((a + 9 : Nat) : Int) false (o ++ b) sp' (o.length : Int) (((o ++ b).length : Int) - (o.length : Int)) = _
            exact ih (a + 9) k (o ++ b) sp' _ b _ _ (by rw [List.length_append]; omega) (by omega) (by omega) (by omega) hsp' (hmn b rfl hf) ⟨by omega, by rw [List.length_append]; omega, by omega, by simp, fun _ => by rw [List.length_append]; omega⟩
          · rw [if_neg hf, if_neg (show ¬ pk_fits (some (o ++ b, sp')) = true from fun h => hf (by have := of_decide_eq_true h; rw [List.length_append] at this; omega))]
    · rw [if_neg hg, if_neg hg, if_pos rfl]
theorem implPakGet_ok (s : List Int) (hs : Bytes s) (hl : s.length ≤ 1099511627776) (k : Nat) (hk : 500 ≤ k) : impl_PakGet.f k s = some (pkGetR s) := by
  unfold impl_PakGet.f
  exact implRun_ok s hs hl 201 0 k [] [] [] [] 0 0 (by simp) (by omega) (by omega) (by omega) ⟨rfl, fun i x s hx _ => by simp at hx⟩ metP_nil ⟨by omega, by omega, rfl, rfl, fun h => absurd rfl h⟩
/-! The reference. -/
open Classical in
theorem specRest_l (s : List Int) (hs : Bytes s) (hl : s.length ≤ 1099511627776) : ∀ (d u k : Nat), u + d = 8 * s.length → d < k → spec_l4Rest.l0 k s (u : Int) = some (decide (∀ j, u ≤ j → j < 8 * s.length → bitAt s j = 0)) := by
  intro d
  induction d with
  | zero =>
    intro u k hu hk
    obtain ⟨k, rfl⟩ : ∃ m, k = m + 1 := ⟨k - 1, by omega⟩
    simp only [spec_l4Rest.l0]
    rw [w64 (by omega) (by omega), if_neg (by omega), decide_eq_true (show ∀ j, u ≤ j → j < 8 * s.length → bitAt s j = 0 from fun j h1 h2 => absurd h2 (by omega))]
  | succ d ih =>
    intro u k hu hk
    obtain ⟨k, rfl⟩ : ∃ m, k = m + 1 := ⟨k - 1, by omega⟩
    obtain ⟨hq, hr⟩ := bit_place u (by omega)
    have hdb := div_byte (getD_byte hs (u / 8)) (u % 8)
    simp only [spec_l4Rest.l0]
    rw [w64 (x := 8 * _) (by omega) (by omega), if_pos (by omega), hq, hr, if_pos (by omega), if_pos (by omega), if_pos (by omega), shr_ok _ _ _ (by show u % 8 ≤ 8; omega), rd_nat, Int.tmod_eq_emod_of_nonneg hdb.1, w64 (by omega) (by omega), show (u : Int) + 1 = ((u + 1 : Nat) : Int) by omega]
    have h01 := bitAt_01 s u
    by_cases hb : s.getD (u / 8) 0 / 2 ^ (u % 8) % 2 = 1
    · rw [if_pos hb, decide_eq_false (show ¬ ∀ j, u ≤ j → j < 8 * s.length → bitAt s j = 0 from fun h => by have := h u (Nat.le_refl _) (by omega); unfold bitAt at this; omega)]
    · rw [if_neg hb, ih (u + 1) k (by omega) (by omega)]
      have h0 : bitAt s u = 0 := by unfold bitAt at h01 ⊢; omega
      congr 1
      apply decide_eq_decide.mpr
      exact ⟨fun h j h1 h2 => by
        by_cases e : j = u
        · rw [e]; exact h0
        · exact h j (by omega) h2, fun h j h1 h2 => h j (by omega) h2⟩
theorem bits_zero {x : Int} (h : Byte x) (m : Nat) (hm : m ≤ 8) (hz : ∀ t, m ≤ t → t < 8 → x / 2 ^ t % 2 = 0) : x / 2 ^ m = 0 := by
  obtain ⟨h0, h1⟩ := h
  obtain ⟨d, hd⟩ : ∃ d, m + d = 8 := ⟨8 - m, by omega⟩
  induction d generalizing m with
  | zero =>
    obtain rfl : m = 8 := by omega
    exact Int.ediv_eq_zero_of_lt h0 (by show x < 256; omega)
  | succ d ih =>
    have h2 := ih (m + 1) (by omega) (fun t h3 h4 => hz t (by omega) h4) (by omega)
    have h3 := hz m (Nat.le_refl _) (by omega)
    rw [pow_succ', Int.mul_comm, ← Int.ediv_ediv_of_nonneg (by have := pow_pos' m; omega)] at h2
    omega
theorem rest_iff (s : List Int) (hs : Bytes s) (u : Nat) (h : s.length = (u + 7) / 8) : (∀ j, u ≤ j → j < 8 * s.length → bitAt s j = 0) ↔ (u % 8 = 0 ∨ s.getD (u / 8) 0 / 2 ^ (u % 8) = 0) := by
  constructor
  · intro hz
    by_cases h8 : u % 8 = 0
    · exact .inl h8
    · refine .inr (bits_zero (getD_byte hs _) _ (by omega) (fun t h1 h2 => ?_))
      have := hz (u / 8 * 8 + t) (by omega) (by omega)
      unfold bitAt at this
      rwa [show (u / 8 * 8 + t) / 8 = u / 8 by omega, show (u / 8 * 8 + t) % 8 = t by omega] at this
  · rintro hz j h1 h2
    rcases hz with hz | hz
    · omega
    · unfold bitAt
      have hj : j / 8 = u / 8 := by omega
      obtain ⟨e, he⟩ : ∃ e, j % 8 = u % 8 + e := ⟨j % 8 - u % 8, by omega⟩
      rw [hj, he, Int.pow_add, ← Int.ediv_ediv_of_nonneg (by have := pow_pos' (u % 8); omega), hz]
      simp
theorem specL4_ok {o : List Int} {met : List (List Int)} {last : List Int} {c : Int} (hm : MetP o met last) (hc0 : 0 ≤ c) (hc1 : c < 512) (hc2 : c ≠ 256) : spec_l4Bytes.f met last c = some ((pkStep o met last c).getD []) := by
  obtain ⟨m1, m2, m3, m4, m5, m6⟩ := hm
  unfold spec_l4Bytes.f pkStep
  by_cases h1 : c < 256
  · rw [if_pos h1, if_pos h1, show c % 256 = c by omega]; rfl
  · rw [if_neg h1, if_neg h1, if_neg (show ¬ c - 257 < 0 by omega), w64 (x := c - 257) (by omega) (by omega)]
    obtain ⟨j, hj⟩ : ∃ j : Nat, c - 257 = (j : Int) := ⟨(c - 257).toNat, by omega⟩
    rw [hj]
    by_cases h2 : (j : Int) < (met.length : Int)
    · rw [if_pos h2, if_pos h2, if_pos (by omega), Int.toNat_natCast, List.getElem?_eq_getElem (by omega)]
      unfold rd_L4
      rw [Int.toNat_natCast, List.getD_eq_getElem?_getD, List.getElem?_eq_getElem (by omega)]
    · rw [if_neg h2, if_neg h2]
      by_cases h3 : (j : Int) = (met.length : Int)
      · rw [if_pos h3]
        by_cases h4 : last = []
        · subst h4
          rw [if_neg (by simp), if_neg (fun h => h.2 rfl)]; rfl
        · have h5 : last.length ≠ 0 := fun e => h4 (List.length_eq_zero_iff.mp e)
          rw [if_pos (by omega), if_pos (by omega), if_pos ⟨h3, h4⟩, Option.bind_some, if_pos (by simp; omega), Option.bind_some, if_pos (by omega), Option.bind_some, if_pos (by simp; omega)]
          simp only [List.nil_append, Option.getD_some]
          congr 3
          cases last with
          | nil => exact absurd rfl h4
          | cons x l => rfl
      · rw [if_neg h3, if_neg (fun h => h3 h.1)]; rfl
open Classical in
set_option maxRecDepth 20000 in
theorem specRun_ok (s : List Int) (hs : Bytes s) (hl : s.length ≤ 1099511627776) : ∀ (d a k : Nat) (o : List Int) (met : List (List Int)) (last : List Int), o.length + d ≥ 201 → a + 9 * d = 1809 → 2 * d + 2000 ≤ k →
    MetP o met last → spec_PakGet.l0 k s o met last (a : Int) = some (pkRun s d a o met last) := by
  intro d
  induction d with
  | zero =>
    intro a k o met last h1 _ _ hm
    have := hm.2.2.1
    omega
  | succ d ih =>
    intro a k o met last h1 h2 hk hm
    obtain ⟨k, rfl⟩ : ∃ m, k = m + 1 + 1 := ⟨k - 2, by omega⟩
    have m2 := hm.2.1
    have m3 := hm.2.2.1
    simp only [spec_PakGet.l0]
    unfold pkRun
    rw [if_pos (by omega), specGet_ok s hs hl _ _ (k + 1) (by omega), Option.bind_some]
    unfold getR
    by_cases hg : GetP s (a : Int) 9
    · rw [if_pos hg, if_pos hg, if_pos rfl]
      dsimp only
      rw [Int.toNat_natCast, show (9 : Int).toNat = 9 from rfl]
      have hgl := hg.2.2.2
      by_cases h6 : bitSum s a 9 = 256
      · rw [if_pos h6, if_pos h6, w64 (x := (a : Int) + 9) (by omega) (by omega), w64 (x := (a : Int) + 9 + 7) (by omega) (by omega), show (a : Int) + 9 + 7 = ((a + 9 + 7 : Nat) : Int) by omega, (bit_place (a + 9 + 7) (by omega)).1]
        by_cases he : s.length = (a + 9 + 7) / 8
        · rw [if_pos (by omega)]
          unfold spec_l4Rest.f
          rw [show (a : Int) + 9 = ((a + 9 : Nat) : Int) by omega, specRest_l s hs hl (8 * s.length - (a + 9)) (a + 9) (k + 1) (by omega) (by omega), Option.bind_some]
          by_cases hz : ∀ j, a + 9 ≤ j → j < 8 * s.length → bitAt s j = 0
          · rw [decide_eq_true hz, if_pos rfl, if_pos (show EndP s (a + 9) from ⟨he, (rest_iff s hs _ he).mp hz⟩)]
          · rw [decide_eq_false hz, if_neg (by decide), if_neg (show ¬ EndP s (a + 9) from fun h => hz ((rest_iff s hs _ he).mpr h.2))]
        · rw [if_neg (by omega), if_neg (show ¬ EndP s (a + 9) from fun h => he h.1)]
      · rw [if_neg h6, if_neg h6]
        obtain ⟨c0, c1⟩ := code_in s a
        have hn : ∀ b, pkStep o met last (bitSum s a 9) = some b → b ≠ [] ∧ b.length ≤ 201 := fun b hb => step_ne hm hb
        have hmn : ∀ b, pkStep o met last (bitSum s a 9) = some b → o.length + b.length ≤ 200 → MetP (o ++ b) (pkMore met last b) b := fun b hb => metP_next hm hb
        rw [specL4_ok hm c0 c1 h6, Option.bind_some]
        unfold pkNext
        generalize pkStep o met last (bitSum s a 9) = st at hn hmn
        cases st with
        | none =>
          rw [Option.getD_none, if_pos (show (([] : List Int).length : Int) = 0 from rfl)]
          simp only [spec_PakGet.j1]
          rw [if_pos trivial]
        | some b =>
          obtain ⟨hb, hb2⟩ := hn b rfl
          have hb1 : b.length ≠ 0 := fun e => hb (List.length_eq_zero_iff.mp e)
          have hmb := hmn b rfl
          clear hn hmn
          rw [Option.getD_some]
          dsimp only
          have q1 : ¬ (b.length : Int) = 0 := by omega
          have q2 : wrap64 ((o.length : Int) + (b.length : Int)) = (o.length : Int) + (b.length : Int) := w64 (by omega) (by omega)
          rw [if_neg q1, q2]
          simp only [spec_PakGet.j1]
          by_cases hf : o.length + b.length ≤ 200
          · rw [if_pos hf, decide_eq_false (by omega), if_neg (by decide), if_pos (by omega), Option.bind_some, w64 (x := (a : Int) + 9) (by omega) (by omega), show (a : Int) + 9 = ((a + 9 : Nat) : Int) by omega]
            have e := ih (a + 9) k (o ++ b) (pkMore met last b) b (by rw [List.length_append]; omega) (by omega) (by omega) (hmb hf)
            by_cases hl2 : last = []
            · have hpm : pkMore met last b = met := by unfold pkMore; rw [if_neg (by simp [hl2])]
              rw [hpm] at e ⊢
              rw [if_neg (by rw [hl2]; simp)]
              exact e
            · have h5 : last.length ≠ 0 := fun e => hl2 (List.length_eq_zero_iff.mp e)
              have h7 := hm.2.2.2.2.1
              have hpm : pkMore met last b = met ++ [last ++ [b.headD 0]] := by unfold pkMore; rw [if_pos hl2]
              rw [if_pos (by omega), w64 (by omega) (by omega), if_pos (by omega), Option.bind_some, if_pos (by simp; omega), Option.bind_some, if_pos (by omega), Option.bind_some, if_pos (by simp; omega), Option.bind_some, if_pos (by simp; omega)]
              rw [hpm] at e ⊢
              rw [List.nil_append, show rd b 0 = b.headD 0 from by cases b with | nil => exact absurd rfl hb | cons x b => rfl]
              exact e
          · rw [if_neg hf, decide_eq_true (by omega), if_pos rfl]
    · rw [if_neg hg, if_neg hg, if_neg (by decide)]
theorem specPakGet_ok (s : List Int) (hs : Bytes s) (hl : s.length ≤ 1099511627776) (k : Nat) (hk : 3000 ≤ k) : spec_PakGet.f k s = some (pkGetR s) := by
  unfold spec_PakGet.f
  exact specRun_ok s hs hl 201 0 k [] [] [] (by simp) (by omega) (by omega) metP_nil
end Go.Proofs.Ytfnkaccncmjnaaa.Pl
namespace Go.Proofs.Ytfnkaccncmjnaaa.Pl
open Go Go.RowKit Go.Proofs.Ytfnkaccncmjnaaa.X Go.Proofs.YtfnkaccncmjnaaaW.PrintWords Go.Proofs.YtfnkaccncmjnaaaW.PrintLast Go.Proofs.YtfnkaccncmjnaaaW.PrintMore
theorem str_iff {l m : List Int} (hl : Bytes l) (hm : Bytes m) : (strOfNums l).toList = (strOfNums m).toList ↔ l = m := by
  have h := eaBytes_core l m hl hm _ _ rfl rfl
  constructor
  · intro h2
    rw [beq_iff_eq.mpr h2] at h
    exact of_decide_eq_true h.symm
  · rintro rfl; rfl
/-- The numbers that are laid for bytes. -/
def cw (cs : List Int) : List S36 := cs.map (fun c => (⟨c, 9⟩ : S36))
def pkPutR (l : List Int) : List Int := if (l.length : Int) > 200 then [] else res (cw (pkCodes l) ++ [⟨256, 9⟩]) [] 0
theorem cw_len (cs : List Int) : (cw cs).length = cs.length := List.length_map _
theorem codes_len (l : List Int) : (pkCodes l).length ≤ l.length := pkEnc_len l.length [] l (Nat.le_refl _)
theorem implPakPut_ok (l : List Int) (hb : Bytes l) (k : Nat) (hk : 400 ≤ k) : impl_PakPut.f k l = some (pkPutR l) := by
  unfold impl_PakPut.f pkPutR
  by_cases h : (l.length : Int) > 200
  · rw [if_pos h, if_pos h]
  · have hc := codes_len l
    have hcl := cw_len (pkCodes l)
    rw [if_neg h, if_neg h, if_pos (List.all_eq_true.mpr (fun x hx => decide_eq_true (by have := hb x hx; exact ⟨this.1, by have := this.2; omega⟩)))]
    exact implPut_ok _ k (by
      show (cw (pkCodes l) ++ [(⟨256, 9⟩ : S36)]).length + 16 < k
      rw [List.length_append, List.length_singleton]; omega)
/-! The reference. -/
theorem mid_take (l : List Int) (a n : Nat) : midL l (a : Int) ((a : Int) + (n : Int)) = (l.drop a).take n := by
  unfold midL
  rw [show (a : Int) + (n : Int) = ((a + n : Nat) : Int) by omega, Int.toNat_natCast, Int.toNat_natCast, List.drop_take, show a + n - a = n by omega]
theorem rdL {met : List (List Int)} {i : Nat} (h : i < met.length) : rd_L4 met (i : Int) = met[i] := by
  unfold rd_L4
  rw [Int.toNat_natCast, List.getD_eq_getElem?_getD, List.getElem?_eq_getElem h]; rfl
theorem specAt_l (met : List (List Int)) (s : List Int) (hm : ∀ t ∈ met, Bytes t) (hs : Bytes s) (hl : met.length ≤ 1000) : ∀ (d i k : Nat), i + d = met.length → d < k → (∀ (j : Nat) (h : j < met.length), j < i → met[j] ≠ s) →
    spec_l4At.l0 k met s (i : Int) = some (if s ∈ met then (pkAt met s : Int) else -1) := by
  intro d
  induction d with
  | zero =>
    intro i k hi hk hj
    obtain ⟨k, rfl⟩ : ∃ m, k = m + 1 := ⟨k - 1, by omega⟩
    simp only [spec_l4At.l0]
    rw [if_neg (by omega), if_neg]
    intro h
    obtain ⟨h1, h2⟩ := pkAt_mem h
    exact hj _ h1 (by omega) h2
  | succ d ih =>
    intro i k hi hk hj
    obtain ⟨k, rfl⟩ : ∃ m, k = m + 1 := ⟨k - 1, by omega⟩
    have hil : i < met.length := by omega
    unfold spec_l4At.l0
    rw [if_pos (by omega), if_pos (by omega), rdL hil]
    have hiff := str_iff (hm _ (List.getElem_mem hil)) hs
    by_cases he : met[i] = s
    · rw [if_pos (hiff.mpr he), if_pos (he ▸ List.getElem_mem hil)]
      have hmem : s ∈ met := he ▸ List.getElem_mem hil
      obtain ⟨h1, h2⟩ := pkAt_mem hmem
      have h3 : ¬ pkAt met s < i := fun h => hj _ h1 h h2
      have h4 : ¬ i < pkAt met s := fun h => by
        have := List.not_of_lt_findIdx h
        simp at this
        exact this he
      congr 1
      omega
    · rw [if_neg (fun h => he (hiff.mp h)), w64 (by omega) (by omega), show (i : Int) + 1 = ((i + 1 : Nat) : Int) by omega]
      exact ih (i + 1) k (by omega) (by omega) (fun j h h2 => by
        by_cases e : j = i
        · subst e; exact he
        · exact hj j h (by omega))
theorem specCode_ok (met : List (List Int)) (s : List Int) (hm : ∀ t ∈ met, Bytes t) (hs : Bytes s) (hl : met.length ≤ 1000) (hs1 : s.length ≠ 0) (k : Nat) (hk : met.length < k) :
    spec_l4Code.f k met s = some (if s.length = 1 ∨ s ∈ met then pkCode met s else -1) := by
  unfold spec_l4Code.f
  by_cases h1 : s.length = 1
  · rw [if_pos (by omega), if_pos (by omega), if_pos (.inl h1)]
    unfold pkCode
    rw [if_pos h1]
    obtain ⟨x, rfl⟩ : ∃ x, s = [x] := List.length_eq_one_iff.mp h1
    have := hs x (by simp)
    have h2 := this.1
    have h3 := this.2
    show some (wrap64 x) = some x
    rw [w64 (by omega) (by omega)]
  · rw [if_neg (by omega)]
    unfold spec_l4At.f
    have e := specAt_l met s hm hs hl met.length 0 k (by omega) hk (fun j _ h => absurd h (by omega))
    rw [show ((0 : Nat) : Int) = 0 from rfl] at e
    rw [e, Option.bind_some]
    by_cases h2 : s ∈ met
    · obtain ⟨h3, _⟩ := pkAt_mem h2
      rw [if_pos h2, if_neg (by omega), if_pos (.inr h2), w64 (by omega) (by omega)]
      unfold pkCode
      rw [if_neg h1]
    · rw [if_neg h2, if_pos (by decide), if_neg (fun h => h.elim h1 h2)]
theorem specPak_l1 (l : List Int) (hb : Bytes l) (hl : l.length ≤ 200) (met : List (List Int)) (hm : ∀ t ∈ met, Bytes t) (hml : met.length ≤ 200) (cs : List S36) (hcl : cs.length ≤ 300) (a : Nat) (ha : a < l.length) :
    ∀ (f n k : Nat), f + n = (l.drop a).length + 1 → 1 ≤ n → n ≤ (l.drop a).length → f + 300 < k → (n = 1 ∨ (l.drop a).take n ∈ met) →
      spec_PakPut.l1 k l met cs (a : Int) (n : Int) = spec_PakPut.l0 (k - 1 - (pkGrow met (l.drop a) f n - n)) l (pkMet met (l.drop a) (pkGrow met (l.drop a) f n)) (cs ++ [⟨pkCode met ((l.drop a).take (pkGrow met (l.drop a) f n)), 9⟩]) ((a + pkGrow met (l.drop a) f n : Nat) : Int) := by
  have hdl : (l.drop a).length = l.length - a := List.length_drop
  have hdb := bytes_drop hb a
  intro f
  induction f with
  | zero => intro n k h1 h2 h3; omega
  | succ f ih =>
    intro n k h1 h2 h3 hk hn
    obtain ⟨k, rfl⟩ : ∃ m, k = m + 1 := ⟨k - 1, by omega⟩
    have hnl : ((l.drop a).take n).length = n := by rw [List.length_take]; omega
    have hcode := specCode_ok met ((l.drop a).take n) hm (bytes_take hdb n) (by omega) (by omega) k (by omega)
    rw [if_pos (by rw [hnl]; exact hn)] at hcode
    have Q1 : Aside0 (wrap64 ((a : Int) + (n : Int)) = (a : Int) + (n : Int)) := ⟨w64 (by omega) (by omega)⟩
    have Q2 : Aside0 (wrap64 ((a : Int) + (n : Int) + 1) = (a : Int) + ((n + 1 : Nat) : Int)) := ⟨by rw [w64 (by omega) (by omega)]; omega⟩
    unfold spec_PakPut.l1
    rw [Q1.out, Q2.out]
    by_cases hlt : n < (l.drop a).length
    · have hnl1 : ((l.drop a).take (n + 1)).length = n + 1 := by rw [List.length_take]; omega
      have hcode1 := specCode_ok met ((l.drop a).take (n + 1)) hm (bytes_take hdb (n + 1)) (by omega) (by omega) k (by omega)
      rw [if_pos (by omega), if_pos (by omega), if_pos (by omega), if_pos (by omega), mid_take, hcode1, Option.bind_some]
      unfold pkGrow
      by_cases hin : (l.drop a).take (n + 1) ∈ met
      · rw [if_pos (Or.inr hin), if_pos (show n < (l.drop a).length ∧ (l.drop a).take (n + 1) ∈ met from ⟨hlt, hin⟩)]
        have hp : pkCode met ((l.drop a).take (n + 1)) ≥ 0 := by unfold pkCode; rw [if_neg (by omega)]; omega
        rw [if_pos hp, w64 (by omega) (by omega), show (n : Int) + 1 = ((n + 1 : Nat) : Int) by omega, ih (n + 1) k (by omega) (by omega) (by omega) (by omega) (.inr hin)]
        have hge := pkGrow_ge met (l.drop a) f (n + 1)
        rw [show k - 1 - (pkGrow met (l.drop a) f (n + 1) - (n + 1)) = k + 1 - 1 - (pkGrow met (l.drop a) f (n + 1) - n) by omega]
      · rw [if_neg (show ¬ (((l.drop a).take (n + 1)).length = 1 ∨ (l.drop a).take (n + 1) ∈ met) from fun h => h.elim (fun h => by omega) hin), if_neg (show ¬ (-1 : Int) ≥ 0 by decide), if_neg (show ¬ (n < (l.drop a).length ∧ (l.drop a).take (n + 1) ∈ met) from fun h => hin h.2), if_pos (by omega), if_pos (by omega), mid_take, hcode, Option.bind_some, if_pos (by omega), Option.bind_some, w64 (x := 257 + (met.length : Int)) (by omega) (by omega), if_pos (by omega), Option.bind_some, if_pos (by rw [hnl1]; simp; omega), if_pos (by omega)]
        unfold pkMet
        rw [if_pos hlt, List.nil_append, Nat.sub_self, show (a : Int) + (n : Int) = ((a + n : Nat) : Int) by omega, show k + 1 - 1 - 0 = k by omega]
    · rw [if_neg (by omega), if_pos (by omega), if_pos (by omega), if_pos (by omega), mid_take, hcode, Option.bind_some, if_pos (by omega)]
      unfold pkGrow
      rw [if_neg (show ¬ (n < (l.drop a).length ∧ (l.drop a).take (n + 1) ∈ met) from fun h => hlt h.1)]
      unfold pkMet
      rw [if_neg hlt, Nat.sub_self, show (a : Int) + (n : Int) = ((a + n : Nat) : Int) by omega, show k + 1 - 1 - 0 = k by omega]
theorem specPak_l0 (l : List Int) (hb : Bytes l) (hl : l.length ≤ 200) : ∀ (d a k : Nat) (met : List (List Int)) (cs : List S36), (l.drop a).length ≤ d → a ≤ l.length → met.length + (l.drop a).length ≤ 200 → cs.length + (l.drop a).length ≤ 200 → 2 * (l.drop a).length + 5000 ≤ k → (∀ t ∈ met, Bytes t) →
    spec_PakPut.l0 k l met cs (a : Int) = some (res (cs ++ cw (pkEnc d met (l.drop a)) ++ [⟨256, 9⟩]) [] 0) := by
  intro d
  induction d with
  | zero =>
    intro a k met cs h1 h2 h3 h4 hk hm
    have hdl : (l.drop a).length = l.length - a := List.length_drop
    obtain ⟨k, rfl⟩ : ∃ m, k = m + 1 := ⟨k - 1, by omega⟩
    unfold spec_PakPut.l0 pkEnc
    rw [if_neg (by omega), if_pos (by omega), specPut_ok _ (by simp; omega) k (by simp; omega), Option.bind_some]
    simp [cw]
  | succ d ih =>
    intro a k met cs h1 h2 h3 h4 hk hm
    have hdl : (l.drop a).length = l.length - a := List.length_drop
    obtain ⟨k, rfl⟩ : ∃ m, k = m + 1 := ⟨k - 1, by omega⟩
    unfold spec_PakPut.l0
    by_cases hr : l.drop a = []
    · have h0 : (l.drop a).length = 0 := by rw [hr]; rfl
      unfold pkEnc
      rw [if_neg (by omega), if_pos (by omega), specPut_ok _ (by simp; omega) k (by simp; omega), Option.bind_some, if_pos hr]
      simp [cw]
    · have h0 : (l.drop a).length ≠ 0 := fun e => hr (List.length_eq_zero_iff.mp e)
      have hg1 := pkLen_pos met (l.drop a)
      have hg2 := pkLen_le met hr
      have e := specPak_l1 l hb hl met hm (by omega) cs (by omega) a (by omega) (l.drop a).length 1 k (by omega) (by omega) (by omega) (by omega) (.inl rfl)
      rw [show ((1 : Nat) : Int) = 1 from rfl] at e
      rw [if_pos (by omega), e]
      change spec_PakPut.l0 (k - 1 - (pkLen met (l.drop a) - 1)) l (pkMet met (l.drop a) (pkLen met (l.drop a))) (cs ++ [⟨pkCode met ((l.drop a).take (pkLen met (l.drop a))), 9⟩]) ((a + pkLen met (l.drop a) : Nat) : Int) = _
      have hdl2 : (l.drop (a + pkLen met (l.drop a))).length = (l.drop a).length - pkLen met (l.drop a) := by rw [List.length_drop]; omega
      have hmm := pkMet_len met (l.drop a) (pkLen met (l.drop a))
      rw [ih (a + pkLen met (l.drop a)) _ _ _ (by omega) (by omega) (by omega) (by rw [List.length_append, List.length_singleton]; omega) (by omega) (fun t ht => by
        unfold pkMet at ht
        split at ht
        · rcases List.mem_append.mp ht with ht | ht
          · exact hm t ht
          · rw [List.mem_singleton.mp ht]; exact bytes_take (bytes_drop hb a) _
        · exact hm t ht)]
      conv => rhs; unfold pkEnc
      rw [if_neg hr, ← List.drop_drop]
      simp [cw]
theorem specPakPut_ok (l : List Int) (hb : Bytes l) (k : Nat) (hk : 6000 ≤ k) : spec_PakPut.f k l = some (pkPutR l) := by
  unfold spec_PakPut.f pkPutR
  by_cases h : (l.length : Int) > 200
  · rw [if_pos h, if_pos h]
  · rw [if_neg h, if_neg h]
    have e := specPak_l0 l hb (by omega) l.length 0 k [] [] (by simp) (by omega) (by simp; omega) (by simp; omega) (by simp; omega) (fun t ht => by cases ht)
    rw [show ((0 : Nat) : Int) = 0 from rfl, List.drop_zero, List.nil_append] at e
    exact e
theorem pkPutR_bytes (l : List Int) : Bytes (pkPutR l) := by
  unfold pkPutR
  split
  · exact bytes_nil
  · exact res_bytes _
theorem pkPutR_len (l : List Int) : (pkPutR l).length ≤ 400 := by
  unfold pkPutR
  split
  · simp
  · exact res_len _
end Go.Proofs.Ytfnkaccncmjnaaa.Pl
namespace Go.Proofs.Ytfnkaccncmjnaaa.Pl
open Go Go.RowKit Go.Proofs.Ytfnkaccncmjnaaa.X Go.Proofs.YtfnkaccncmjnaaaW.PrintWords Go.Proofs.YtfnkaccncmjnaaaW.PrintLast Go.Proofs.YtfnkaccncmjnaaaW.PrintMore
/-- Codes that lie in bytes, and what ends them. -/
theorem run_codes (s : List Int) (X : List Int → List Int × Bool) : ∀ (cs : List Int) (d a : Nat) (o : List Int) (met : List (List Int)) (last : List Int), cs.length < d →
    (∀ (i : Nat) (h : i < cs.length), GetP s ((a + 9 * i : Nat) : Int) 9 ∧ bitSum s (a + 9 * i) 9 = cs[i] ∧ cs[i] ≠ 256) →
    (∀ (d : Nat) (o : List Int) (met : List (List Int)) (last : List Int), pkRun s (d + 1) (a + 9 * cs.length) o met last = X o) →
    pkRun s d a o met last = match pkDec cs o met last with
      | none => ([], false)
      | some o' => X o'
  | [], d, a, o, met, last, hd, _, hX => by
    obtain ⟨d, rfl⟩ : ∃ m, d = m + 1 := ⟨d - 1, by simp at hd; omega⟩
    exact hX d o met last
  | c :: cs, d, a, o, met, last, hd, hc, hX => by
    obtain ⟨d, rfl⟩ : ∃ m, d = m + 1 := ⟨d - 1, by simp at hd; omega⟩
    rw [List.length_cons] at hd
    obtain ⟨h1, h2, h3⟩ := hc 0 (by simp)
    simp only [Nat.mul_zero, Nat.add_zero, List.getElem_cons_zero] at h1 h2 h3
    have ih := fun o met last => run_codes s X cs d (a + 9) o met last (by omega) (fun i h => by
      have := hc (i + 1) (by simp; omega)
      rw [List.getElem_cons_succ, show a + 9 * (i + 1) = a + 9 + 9 * i by omega] at this
      exact this) (fun d o met last => by
      have := hX d o met last
      rw [List.length_cons, show a + 9 * (cs.length + 1) = a + 9 + 9 * cs.length by omega] at this
      exact this)
    unfold pkRun pkDec
    rw [if_pos h1, h2, if_neg h3]
    unfold pkNext
    cases hst : pkStep o met last c with
    | none => rfl
    | some b =>
      dsimp only [Option.bind_some]
      by_cases hl : o.length + b.length ≤ 200
      · rw [if_pos hl, if_pos hl]
        exact ih _ _ _
      · rw [if_neg hl, if_neg hl]
theorem tb_cw (cs : List Int) : tb (cw cs) = 9 * cs.length := by
  induction cs with
  | nil => rfl
  | cons c cs ih =>
    rw [show cw (c :: cs) = ⟨c, 9⟩ :: cw cs from rfl, List.length_cons]
    unfold tb
    rw [ih]
    show (9 : Int).toNat + 9 * cs.length = _
    rw [show (9 : Int).toNat = 9 from rfl]; omega
/-- What is packed is what was packed, bit by bit. -/
theorem put_facts (cs : List Int) (hc : ∀ c ∈ cs, 0 ≤ c ∧ c < 512) (hl : cs.length ≤ 200) : ∃ p, res (cw cs ++ [⟨256, 9⟩]) [] 0 = p ∧ Inv p (9 * (cs.length + 1)) ∧ (∀ (i : Nat) (h : i < cs.length), bitSum p (9 * i) 9 = cs[i]) ∧ bitSum p (9 * cs.length) 9 = 256 := by
  have htb : tb (cw cs ++ [(⟨256, 9⟩ : S36)]) = 9 * (cs.length + 1) := by
    rw [tb_append, tb_cw]
    show 9 * cs.length + ((9 : Int).toNat + 0) = _
    rw [show (9 : Int).toNat = 9 from rfl]; omega
  have hp : ∀ c : Int, 0 ≤ c ∧ c < 512 → BitP c 9 := fun c h => ⟨by decide, by decide, h.1, by show c < 2 ^ 9; rw [pow9]; exact h.2⟩
  have hok : PutOk (cw cs ++ [(⟨256, 9⟩ : S36)]) 0 := by
    refine ⟨fun x hx => ?_, by rw [htb]; omega⟩
    rcases List.mem_append.mp hx with hx | hx
    · obtain ⟨c, h1, rfl⟩ := List.mem_map.mp hx
      exact hp c (hc c h1)
    · rw [List.mem_singleton.mp hx]; exact hp 256 ⟨by decide, by decide⟩
  have hinv := inv_res _ hok
  rw [htb] at hinv
  refine ⟨_, rfl, ?_, fun i h => ?_, ?_⟩
  · unfold res; rw [if_pos hok]; exact hinv
  · unfold res; rw [if_pos hok]
    have hs := sum_putL (cw (cs.take i)) ⟨cs[i], 9⟩ (cw (cs.drop (i + 1)) ++ [⟨256, 9⟩]) inv_nil (hp _ (hc _ (List.getElem_mem h)))
    have e : cw (cs.take i) ++ (⟨cs[i], 9⟩ : S36) :: (cw (cs.drop (i + 1)) ++ [⟨256, 9⟩]) = cw cs ++ [⟨256, 9⟩] := by
      unfold cw
      conv => rhs; rw [← List.take_append_drop i cs, List.drop_eq_getElem_cons h]
      rw [List.map_append, List.map_cons, List.append_assoc, List.cons_append]
    rw [e, tb_cw, List.length_take, Nat.min_eq_left (Nat.le_of_lt h), Nat.zero_add] at hs
    exact hs
  · unfold res; rw [if_pos hok]
    have hs := sum_putL (cw cs) ⟨256, 9⟩ [] inv_nil (hp 256 ⟨by decide, by decide⟩)
    rw [tb_cw, Nat.zero_add] at hs
    exact hs
theorem codes_in (l : List Int) (hb : Bytes l) (hl : l.length ≤ 200) : ∀ c ∈ pkCodes l, 0 ≤ c ∧ c < 512 ∧ c ≠ 256 :=
  pkEnc_code l.length [] l (Nat.le_refl _) (fun x hx => by have := hb x hx; exact ⟨this.1, by have := this.2; omega⟩) (by simp; omega)
theorem codes_dec (l : List Int) (hb : Bytes l) (hl : l.length ≤ 200) : pkDec (pkCodes l) [] [] [] = some l :=
  pkDec_codes l (fun x hx => by have := hb x hx; exact ⟨this.1, by have := this.2; omega⟩) hl
/-- What was packed is unpacked. -/
theorem back_ok (l : List Int) (hb : Bytes l) (hl : l.length ≤ 200) : pkGetR (pkPutR l) = (l, true) := by
  have hc := codes_in l hb hl
  have hn := codes_len l
  obtain ⟨p, hp, hinv, hbits, hend⟩ := put_facts (pkCodes l) (fun c h => ⟨(hc c h).1, (hc c h).2.1⟩) (by omega)
  have hpr : pkPutR l = p := by unfold pkPutR; rw [if_neg (by omega), hp]
  have hlen := hinv.len
  rw [hpr]
  unfold pkGetR
  rw [run_codes p (fun o => (o, true)) (pkCodes l) 201 0 [] [] [] (by omega) (fun i h => ?_) (fun d o met last => ?_), codes_dec l hb hl]
  · rw [Nat.zero_add]
    exact ⟨⟨by omega, by decide, by decide, by omega⟩, hbits i h, (hc _ (List.getElem_mem h)).2.2⟩
  · rw [Nat.zero_add]
    unfold pkRun
    rw [if_pos ⟨by omega, by decide, by decide, by omega⟩, hend, if_pos rfl, if_pos]
    refine ⟨by omega, ?_⟩
    by_cases h8 : (9 * (pkCodes l).length + 9) % 8 = 0
    · exact .inl h8
    · right
      have h1 := hinv.low (by rw [show 9 * ((pkCodes l).length + 1) = 9 * (pkCodes l).length + 9 by omega]; exact h8)
      rw [show 9 * ((pkCodes l).length + 1) = 9 * (pkCodes l).length + 9 by omega] at h1
      exact Int.ediv_eq_zero_of_lt (getD_byte hinv.byt _).1 h1
theorem bitAt_take (s : List Int) (m j : Nat) (h : j < 8 * m) : bitAt (s.take m) j = bitAt s j := by
  unfold bitAt
  rw [List.getD_eq_getElem?_getD, List.getD_eq_getElem?_getD, List.getElem?_take, if_pos (by omega)]
/-- Without its last byte it is not. -/
theorem short_ok (l : List Int) (hb : Bytes l) (hl : l.length ≤ 200) : pkGetR ((pkPutR l).take ((pkPutR l).length - 1)) = ([], false) := by
  have hc := codes_in l hb hl
  have hn := codes_len l
  obtain ⟨p, hp, hinv, hbits, hend⟩ := put_facts (pkCodes l) (fun c h => ⟨(hc c h).1, (hc c h).2.1⟩) (by omega)
  have hpr : pkPutR l = p := by unfold pkPutR; rw [if_neg (by omega), hp]
  have hlen := hinv.len
  rw [hpr]
  have htl : (p.take (p.length - 1)).length = p.length - 1 := by rw [List.length_take]; omega
  unfold pkGetR
  rw [run_codes (p.take (p.length - 1)) (fun _ => ([], false)) (pkCodes l) 201 0 [] [] [] (by omega) (fun i h => ?_) (fun d o met last => ?_)]
  · cases pkDec (pkCodes l) [] [] [] <;> rfl
  · rw [Nat.zero_add]
    refine ⟨⟨by omega, by decide, by decide, by rw [htl]; omega⟩, ?_, (hc _ (List.getElem_mem h)).2.2⟩
    rw [bitSum_congr 9 (fun t ht => bitAt_take p _ _ (by omega)), hbits i h]
  · rw [Nat.zero_add]
    unfold pkRun
    rw [if_neg]
    intro h
    have := h.2.2.2
    rw [htl] at this
    omega
theorem getP_more {s : List Int} {a : Nat} (h : GetP s (a : Int) 9) : GetP (s ++ [0]) (a : Int) 9 := ⟨h.1, h.2.1, h.2.2.1, by have := h.2.2.2; rw [List.length_append, List.length_singleton]; omega⟩
theorem bitSum_more {s : List Int} {a : Nat} (h : GetP s (a : Int) 9) : bitSum (s ++ [0]) a 9 = bitSum s a 9 := by
  refine bitSum_congr 9 (fun t ht => ?_)
  have := h.2.2.2
  unfold bitAt
  rw [List.getD_eq_getElem?_getD, List.getD_eq_getElem?_getD, List.getElem?_append_left (by omega)]
/-- With a nought more nothing is unpacked. -/
theorem more_no (s b : List Int) : ∀ (d a : Nat) (o : List Int) (met : List (List Int)) (last : List Int), pkRun s d a o met last = (b, true) → pkRun (s ++ [0]) d a o met last = ([], false)
  | 0, a, o, met, last, h => rfl
  | d + 1, a, o, met, last, h => by
    unfold pkRun at h ⊢
    by_cases hg : GetP s (a : Int) 9
    · rw [if_pos hg] at h
      rw [if_pos (getP_more hg), bitSum_more hg]
      by_cases h6 : bitSum s a 9 = 256
      · rw [if_pos h6] at h ⊢
        by_cases he : EndP s (a + 9)
        · rw [if_neg]
          intro h2
          have e1 := he.1
          have e2 := h2.1
          rw [List.length_append, List.length_singleton] at e2
          omega
        · rw [if_neg he] at h
          injection h with _ h; cases h
      · rw [if_neg h6] at h ⊢
        unfold pkNext at h ⊢
        cases hst : pkStep o met last (bitSum s a 9) with
        | none => rfl
        | some c =>
          rw [hst] at h
          dsimp only at h ⊢
          by_cases hl : o.length + c.length ≤ 200
          · rw [if_pos hl] at h ⊢
            exact more_no s b d (a + 9) _ _ _ h
          · rw [if_neg hl]
    · rw [if_neg hg] at h
      injection h with _ h; cases h
/-- What is unpacked is bytes, and not too many; of what is not there is none. -/
theorem run_good (s : List Int) (hs : Bytes s) : ∀ (d a : Nat) (o : List Int) (met : List (List Int)) (last : List Int), Bytes o → (∀ t ∈ met, Bytes t) → Bytes last → o.length ≤ 200 →
    Bytes (pkRun s d a o met last).1 ∧ (pkRun s d a o met last).1.length ≤ 200 ∧ ((pkRun s d a o met last).2 = false → (pkRun s d a o met last).1 = [])
  | 0, a, o, met, last, _, _, _, _ => ⟨bytes_nil, Nat.zero_le _, fun _ => rfl⟩
  | d + 1, a, o, met, last, h1, h2, h3, h4 => by
    have hnil : Bytes (([], false) : List Int × Bool).1 ∧ (([], false) : List Int × Bool).1.length ≤ 200 ∧ ((([], false) : List Int × Bool).2 = false → (([], false) : List Int × Bool).1 = []) := ⟨bytes_nil, Nat.zero_le _, fun _ => rfl⟩
    unfold pkRun
    by_cases hg : GetP s (a : Int) 9
    · rw [if_pos hg]
      by_cases h6 : bitSum s a 9 = 256
      · rw [if_pos h6]
        by_cases he : EndP s (a + 9)
        · rw [if_pos he]
          exact ⟨h1, h4, fun h => by cases h⟩
        · rw [if_neg he]; exact hnil
      · rw [if_neg h6]
        unfold pkNext
        have hcb : ∀ b, pkStep o met last (bitSum s a 9) = some b → Bytes b := by
          intro b hb
          obtain ⟨c0, c1⟩ := code_in s a
          unfold pkStep at hb
          split at hb
          · injection hb with hb; subst hb
            intro x hx
            rw [List.mem_singleton.mp hx]
            exact ⟨c0, by omega⟩
          · split at hb
            · cases hb
            · split at hb
              · exact h2 _ (List.mem_of_getElem? hb)
              · split at hb
                · rename_i hq
                  injection hb with hb; subst hb
                  refine bytes_append h3 (fun x hx => ?_)
                  rw [List.mem_singleton.mp hx]
                  cases last with
                  | nil => exact absurd rfl hq.2
                  | cons y l => exact h3 y (by simp)
                · cases hb
        cases hst : pkStep o met last (bitSum s a 9) with
        | none => exact hnil
        | some b =>
          have hb := hcb b hst
          dsimp only
          by_cases hl : o.length + b.length ≤ 200
          · rw [if_pos hl]
            refine run_good s hs d (a + 9) _ _ _ (bytes_append h1 hb) (fun t ht => ?_) hb (by rw [List.length_append]; exact hl)
            unfold pkMore at ht
            split at ht
            · rcases List.mem_append.mp ht with ht | ht
              · exact h2 t ht
              · rw [List.mem_singleton.mp ht]
                refine bytes_append h3 (fun x hx => ?_)
                rw [List.mem_singleton.mp hx]
                cases b with
                | nil => exact ⟨by decide, by decide⟩
                | cons y l => exact hb y (by simp)
            · exact h2 t ht
          · rw [if_neg hl]; exact hnil
    · rw [if_neg hg]; exact hnil
theorem getR_good (s : List Int) (hs : Bytes s) : Bytes (pkGetR s).1 ∧ (pkGetR s).1.length ≤ 200 ∧ ((pkGetR s).2 = false → (pkGetR s).1 = []) := run_good s hs 201 0 [] [] [] bytes_nil (fun t h => by cases h) bytes_nil (by simp)
theorem put_len (l : List Int) (hb : Bytes l) (hl : l.length ≤ 200) : (pkPutR l).length = (9 * ((pkCodes l).length + 1) + 7) / 8 := by
  have hc := codes_in l hb hl
  have hn := codes_len l
  obtain ⟨p, hp, hinv, _, _⟩ := put_facts (pkCodes l) (fun c h => ⟨(hc c h).1, (hc c h).2.1⟩) (by omega)
  unfold pkPutR
  rw [if_neg (by omega), hp, hinv.len]
end Go.Proofs.Ytfnkaccncmjnaaa.Pl
namespace Go.Proofs.Ytfnkaccncmjnaaa.Pl
open Go Go.RowKit Go.Proofs.Ytfnkaccncmjnaaa.X
/-- What is met of noughts: two, three .. of them. -/
def zm (j : Nat) : List (List Int) := (List.range (j - 1)).map (fun i : Nat => List.replicate (i + 2) 0)
theorem zm_mem (j m : Nat) : List.replicate m (0 : Int) ∈ zm j ↔ 2 ≤ m ∧ m ≤ j := by
  unfold zm
  rw [List.mem_map]
  constructor
  · rintro ⟨i, h1, h2⟩
    have h3 := List.mem_range.mp h1
    have h4 := congrArg List.length h2
    rw [List.length_replicate, List.length_replicate] at h4
    omega
  · rintro ⟨h1, h2⟩
    exact ⟨m - 2, List.mem_range.mpr (by omega), by rw [show m - 2 + 2 = m by omega]⟩
theorem zm_next (j : Nat) (h : 1 ≤ j) : zm (j + 1) = zm j ++ [List.replicate (j + 1) 0] := by
  obtain ⟨i, rfl⟩ : ∃ i, j = i + 1 := ⟨j - 1, by omega⟩
  unfold zm
  rw [show i + 1 + 1 - 1 = i + 1 by omega, show i + 1 - 1 = i by omega, List.range_succ, List.map_append]
  rfl
/-- How many codes noughts have. -/
def zc : Nat → Nat → Nat → Nat
  | 0, _, _ => 0
  | f + 1, j, m => if m = 0 then 0 else 1 + zc f (j + 1) (m - min j m)
theorem zc_zero (f j : Nat) : zc f j 0 = 0 := by cases f <;> rfl
theorem enc_zero : ∀ (f j m : Nat), 1 ≤ j → m ≤ f → (pkEnc f (zm j) (List.replicate m 0)).length = zc f j m
  | 0, j, m, _, _ => rfl
  | f + 1, j, m, hj, hm => by
    unfold pkEnc zc
    by_cases h0 : m = 0
    · subst h0
      rw [List.replicate_zero, if_pos rfl]; rfl
    · rw [if_neg (fun e => h0 (by have := congrArg List.length e; rwa [List.length_replicate] at this)), if_neg h0]
      have hn : pkLen (zm j) (List.replicate m 0) = min j m := by
        refine pkGrow_eq (zm j) (List.replicate m 0) _ 1 (min j m) (by omega) (by rw [List.length_replicate]; omega) (fun i h1 h2 => ?_) (fun h => ?_)
        · rw [List.length_replicate, List.take_replicate, Nat.min_eq_left (show i + 1 ≤ m by omega)]
          exact ⟨by omega, (zm_mem j (i + 1)).mpr ⟨by omega, by omega⟩⟩
        · obtain ⟨h1, h2⟩ := h
          rw [List.length_replicate] at h1
          rw [List.take_replicate, Nat.min_eq_left (show min j m + 1 ≤ m by omega)] at h2
          have := (zm_mem j _).mp h2
          omega
      rw [hn, List.length_cons, List.drop_replicate]
      unfold pkMet
      rw [List.length_replicate]
      by_cases hlt : min j m < m
      · rw [if_pos hlt, List.take_replicate, Nat.min_eq_left (show min j m + 1 ≤ m by omega), Nat.min_eq_left (show j ≤ m by omega), ← zm_next j hj, enc_zero f (j + 1) (m - j) (by omega) (by omega)]
        omega
      · rw [if_neg hlt, show m - min j m = 0 by omega, zc_zero, enc_zero f j 0 hj (by omega), zc_zero]
theorem zero_small : ∀ i : Fin 100, 3 * ((9 * (zc (60 + i.val) 1 (60 + i.val) + 1) + 7) / 8) < 60 + i.val := by decide +kernel
theorem zero_codes (n : Nat) (h1 : 60 ≤ n) (h2 : n ≤ 159) : 3 * ((9 * ((pkCodes (List.replicate n 0)).length + 1) + 7) / 8) < n := by
  have e : (pkCodes (List.replicate n 0)).length = zc n 1 n := by
    unfold pkCodes
    rw [List.length_replicate]
    exact enc_zero n 1 n (Nat.le_refl 1) (Nat.le_refl n)
  have := zero_small ⟨n - 60, by omega⟩
  rw [e]
  rwa [show 60 + (⟨n - 60, by omega⟩ : Fin 100).val = n by show 60 + (n - 60) = n; omega] at this
end Go.Proofs.Ytfnkaccncmjnaaa.Pl
namespace Go.Proofs.Ytfnkaccncmjnaaa.Pl
open Go Go.RowKit Go.Proofs.Ytfnkaccncmjnaaa.X Go.Proofs.YtfnkaccncmjnaaaW.PrintWords Go.Proofs.YtfnkaccncmjnaaaW.PrintLast Go.Proofs.YtfnkaccncmjnaaaW.PrintMore
theorem partOk_ok (a : Int) : impl_partOk.f a = some (decide (0 ≤ a ∧ a ≤ 255)) := by
  unfold impl_partOk.f
  by_cases h : a ≥ 0
  · rw [if_pos h]; congr 1; simp only [decide_eq_decide]; omega
  · rw [if_neg h]; congr 1; symm; simp only [decide_eq_false_iff_not]; omega
def PixP (r g b a : Int) : Prop := (0 ≤ r ∧ r ≤ 255) ∧ (0 ≤ g ∧ g ≤ 255) ∧ (0 ≤ b ∧ b ≤ 255) ∧ (0 ≤ a ∧ a ≤ 255)
instance (r g b a : Int) : Decidable (PixP r g b a) := by unfold PixP; infer_instance
theorem implPixOk_ok (r g b a : Int) : impl_PixOk.f r g b a = some (decide (PixP r g b a)) := by
  unfold impl_PixOk.f
  simp only [partOk_ok, Option.bind_some]
  by_cases h1 : 0 ≤ r ∧ r ≤ 255 <;> by_cases h2 : 0 ≤ g ∧ g ≤ 255 <;> by_cases h3 : 0 ≤ b ∧ b ≤ 255 <;> by_cases h4 : 0 ≤ a ∧ a ≤ 255 <;> simp [PixP, h1, h2, h3, h4]
end Go.Proofs.Ytfnkaccncmjnaaa.Pl
namespace Go.Proofs.Ytfnkaccncmjnaaa.Pl
open Go Go.RowKit Go.Proofs.Ytfnkaccncmjnaaa.X Go.Proofs.YtfnkaccncmjnaaaW.PrintWords Go.Proofs.YtfnkaccncmjnaaaW.PrintLast Go.Proofs.YtfnkaccncmjnaaaW.PrintMore
theorem specPixOk_ok (r g b a : Int) : spec_PixOk.f r g b a = some (decide (PixP r g b a)) := by
  unfold spec_PixOk.f
  simp only [l1In_ok, Option.bind_some]
  by_cases h1 : 0 ≤ r ∧ r ≤ 255 <;> by_cases h2 : 0 ≤ g ∧ g ≤ 255 <;> by_cases h3 : 0 ≤ b ∧ b ≤ 255 <;> by_cases h4 : 0 ≤ a ∧ a ≤ 255 <;> simp [PixP, h1, h2, h3, h4]
end Go.Proofs.Ytfnkaccncmjnaaa.Pl
namespace Go.Proofs.Ytfnkaccncmjnaaa.Pl
open Go Go.RowKit Go.Proofs.Ytfnkaccncmjnaaa.X Go.Proofs.YtfnkaccncmjnaaaW.PrintWords Go.Proofs.YtfnkaccncmjnaaaW.PrintLast Go.Proofs.YtfnkaccncmjnaaaW.PrintMore
theorem eaOk_ok : laws_eaOk.f = some true := by
  unfold laws_eaOk.f
  rw [implPixOk_ok]
  simp [PixP]
end Go.Proofs.Ytfnkaccncmjnaaa.Pl
namespace Go.Proofs.Ytfnkaccncmjnaaa.Pl
open Go Go.RowKit Go.Proofs.Ytfnkaccncmjnaaa.X Go.Proofs.YtfnkaccncmjnaaaW.PrintWords Go.Proofs.YtfnkaccncmjnaaaW.PrintLast Go.Proofs.YtfnkaccncmjnaaaW.PrintMore

theorem xor_nonneg (a b : Int) (ha : 0 ≤ a) (hb : 0 ≤ b) (ha1 : a < 4611686018427387904) (hb1 : b < 4611686018427387904) : 0 ≤ Go.bits .xor .i64 a b := by
  obtain ⟨m, rfl⟩ := Int.eq_ofNat_of_zero_le ha
  obtain ⟨n, rfl⟩ := Int.eq_ofNat_of_zero_le hb
  have hm : m < 2 ^ 62 := by omega
  have hn : n < 2 ^ 62 := by omega
  have hx : m ^^^ n < 2 ^ 62 := Nat.xor_lt_two_pow hm hn
  have h1 : m % 2 ^ 64 = m := Nat.mod_eq_of_lt (by omega)
  have h2 : n % 2 ^ 64 = n := Nat.mod_eq_of_lt (by omega)
  have e : Go.bits .xor .i64 (m : Int) (n : Int) = IntKind.i64.wrap ((m ^^^ n : Nat) : Int) := by
    simp only [Go.bits, BitVec.ofInt_natCast, BitVec.toNat_xor, BitVec.toNat_ofNat]
    rw [show IntKind.bits .i64 = 64 from rfl, h1, h2]
  rw [e]
  have : IntKind.i64.wrap ((m ^^^ n : Nat) : Int) = wrap64 ((m ^^^ n : Nat) : Int) := i64_w _
  rw [this, w64 (by omega) (by omega)]
  omega
theorem tmod_in (x n : Int) (hx : 0 ≤ x) (hn : 1 ≤ n) : 0 ≤ Int.tmod x n ∧ Int.tmod x n < n := ⟨Int.tmod_nonneg _ hx, Int.tmod_lt_of_pos _ (by omega)⟩
theorem pick_ok (s : List Int) (hs : Bytes s) (hl : s.length ≤ 2000) (p n : Int) (h0 : 0 ≤ p) (h1 : p ≤ 1000000) :
    ∃ r, (∀ k, 1 ≤ k → spec_l20Rd_pick.f k s p n = some (r, p + 1)) ∧ 0 ≤ r ∧ (1 ≤ n → r < n) ∧ (n < 1 → r = 0) := by
  have hp1 : wrap64 (p + 1) = p + 1 := w64 (by omega) (by omega)
  have hp2 : wrap64 (p + 1 - 1) = p := by rw [w64 (by omega) (by omega)]; omega
  by_cases hn : n < 1
  · refine ⟨0, fun k hk => ?_, by omega, by omega, fun _ => rfl⟩
    obtain ⟨k, rfl⟩ : ∃ m, k = m + 1 := ⟨k - 1, by omega⟩
    unfold spec_l20Rd_pick.f
    rw [if_pos hn, hp1]
    simp only [spec_l20Rd_pick.j0, if_true]
  by_cases hz : s.length = 0
  · refine ⟨0, fun k hk => ?_, by omega, by omega, fun h => by omega⟩
    obtain ⟨k, rfl⟩ : ∃ m, k = m + 1 := ⟨k - 1, by omega⟩
    unfold spec_l20Rd_pick.f
    rw [if_neg hn, hp1, hz]
    simp only [spec_l20Rd_pick.j0]
    rfl
  have hb : ((s.length : Int) == 0) = false := by rw [beq_eq_false_iff_ne]; omega
  by_cases hlt : p < (s.length : Int)
  · obtain ⟨hr0, hr1⟩ := rd_byte hs p
    obtain ⟨ht0, ht1⟩ := tmod_in (rd s p) n hr0 (by omega)
    refine ⟨Int.tmod (rd s p) n, fun k hk => ?_, ht0, fun _ => ht1, fun h => by omega⟩
    obtain ⟨k, rfl⟩ : ∃ m, k = m + 1 := ⟨k - 1, by omega⟩
    unfold spec_l20Rd_pick.f
    rw [if_neg hn, hp1, hb]
    simp only [spec_l20Rd_pick.j0, hp2]
    rw [if_neg (by decide), if_pos hlt, if_pos h0, if_neg (by omega), w64 (by omega) (by omega)]
  · have hL : (1 : Int) ≤ (s.length : Int) := by omega
    obtain ⟨hk0, hk1⟩ := tmod_in p (s.length : Int) h0 hL
    have hw7 : wrap64 (p * 7) = p * 7 := w64 (by omega) (by omega)
    have hw3 : wrap64 (p * 7 + 3) = p * 7 + 3 := w64 (by omega) (by omega)
    obtain ⟨hj0, hj1⟩ := tmod_in (p * 7 + 3) (s.length : Int) (by omega) hL
    obtain ⟨hr0, hr1⟩ := rd_byte hs (Int.tmod p (s.length : Int))
    obtain ⟨hq0, hq1⟩ := rd_byte hs (Int.tmod (p * 7 + 3) (s.length : Int))
    have hd : Int.tdiv p (s.length : Int) = p / (s.length : Int) := Int.tdiv_eq_ediv_of_nonneg h0
    have hd0 : 0 ≤ p / (s.length : Int) := Int.ediv_nonneg h0 (by omega)
    have hd1 : p / (s.length : Int) ≤ p := Int.ediv_le_self _ h0
    generalize hA : rd s (Int.tmod p (s.length : Int)) = A at hr0 hr1
    generalize hB : rd s (Int.tmod (p * 7 + 3) (s.length : Int)) = B at hq0 hq1
    generalize hD : p / (s.length : Int) = D at hd hd0 hd1
    have hx0 : 0 ≤ A * 131 + B * 1117 + p * 29 + D * 53 := by omega
    have hx1 : A * 131 + B * 1117 + p * 29 + D * 53 ≤ 100000000 := by omega
    have hx64 : Int.tdiv (A * 131 + B * 1117 + p * 29 + D * 53) 64 = (A * 131 + B * 1117 + p * 29 + D * 53) / 64 := Int.tdiv_eq_ediv_of_nonneg hx0
    have hX := xor_nonneg (A * 131 + B * 1117 + p * 29 + D * 53) ((A * 131 + B * 1117 + p * 29 + D * 53) / 64) hx0 (by omega) (by omega) (by omega)
    obtain ⟨ht0, ht1⟩ := tmod_in (Go.bits .xor .i64 (A * 131 + B * 1117 + p * 29 + D * 53) ((A * 131 + B * 1117 + p * 29 + D * 53) / 64)) n hX (by omega)
    refine ⟨_, fun k hk => ?_, ht0, fun _ => ht1, fun h => by omega⟩
    obtain ⟨k, rfl⟩ : ∃ m, k = m + 1 := ⟨k - 1, by omega⟩
    unfold spec_l20Rd_pick.f
    rw [if_neg hn, hp1, hb]
    simp only [spec_l20Rd_pick.j0, hp2, hw7, hw3]
    rw [if_neg (by decide), if_neg hlt, if_neg (by omega), if_pos hk0, if_pos hk1, if_pos hj0, if_pos hj1, if_neg (by omega), hA, hB, hd]
    rw [w64 (x := A) (by omega) (by omega), w64 (x := B) (by omega) (by omega), w64 (x := D) (by omega) (by omega), w64 (x := A * 131) (by omega) (by omega), w64 (x := B * 1117) (by omega) (by omega), w64 (x := p * 29) (by omega) (by omega), w64 (x := D * 53) (by omega) (by omega), w64 (x := A * 131 + B * 1117) (by omega) (by omega), w64 (x := A * 131 + B * 1117 + p * 29) (by omega) (by omega), w64 (x := A * 131 + B * 1117 + p * 29 + D * 53) (by omega) (by omega), hx64, w64 (x := (A * 131 + B * 1117 + p * 29 + D * 53) / 64) (by omega) (by omega)]
theorem odd_ok (s : List Int) (hs : Bytes s) (hl : s.length ≤ 2000) (p n : Int) (h0 : 0 ≤ p) (h1 : p ≤ 1000000) (hn : n ≤ 1000000) :
    ∃ b q, (∀ k, 1 ≤ k → spec_l20Rd_odd.f k s p n = some (b, q)) ∧ p ≤ q ∧ q ≤ p + 1 ∧ (n ≤ 0 → b = false) := by
  unfold spec_l20Rd_odd.f
  by_cases h : n > 0
  · obtain ⟨r, hr, _, _, _⟩ := pick_ok s hs hl p n h0 h1
    exact ⟨_, _, fun k hk => by rw [if_pos h, hr k hk]; rfl, by omega, by omega, fun h' => by omega⟩
  · exact ⟨false, p, fun k _ => by rw [if_neg h], by omega, by omega, fun _ => rfl⟩
/-- What the reader opens: the code's first 2000 bytes. -/
theorem open_ok (l : List Int) (hb : Bytes l) : ∃ s, spec_l20Open.f l = some (s, 0) ∧ Bytes s ∧ s.length ≤ 2000 ∧ s.length ≤ l.length := by
  unfold spec_l20Open.f
  by_cases h : (l.length : Int) > 2000
  · refine ⟨l.take 2000, ?_, bytes_take hb _, by rw [List.length_take]; omega, by rw [List.length_take]; omega⟩
    rw [if_pos h, if_pos (by omega)]
  · exact ⟨l, by rw [if_neg h], hb, by omega, Nat.le_refl _⟩
end Go.Proofs.Ytfnkaccncmjnaaa.Pl
namespace Go.Proofs.Ytfnkaccncmjnaaa.Pl
open Go Go.RowKit Go.Proofs.Ytfnkaccncmjnaaa.X Go.Proofs.YtfnkaccncmjnaaaW.PrintWords Go.Proofs.YtfnkaccncmjnaaaW.PrintLast Go.Proofs.YtfnkaccncmjnaaaW.PrintMore
def GoodP (p : S59) : Prop := PixP p.f0 p.f1 p.f2 p.f3
instance (p : S59) : Decidable (GoodP p) := by unfold GoodP; infer_instance
def RasP (W H : Int) (l : List S59) : Prop := (1 ≤ W ∧ W ≤ 6) ∧ (1 ≤ H ∧ H ≤ 6) ∧ (l.length : Int) = W * H ∧ ∀ p ∈ l, GoodP p
instance (W H : Int) (l : List S59) : Decidable (RasP W H l) := by unfold RasP; infer_instance
theorem rdP {xs : List S59} {i : Nat} (h : i < xs.length) : rd_T59 xs (i : Int) = xs[i] := by
  unfold rd_T59
  rw [Int.toNat_natCast, List.getD_eq_getElem?_getD, List.getElem?_eq_getElem h]; rfl
theorem mulB {W H : Int} (hW : 1 ≤ W ∧ W ≤ 6) (hH : 1 ≤ H ∧ H ≤ 6) : 1 ≤ W * H ∧ W * H ≤ 36 := by
  have h2 : H = 1 ∨ H = 2 ∨ H = 3 ∨ H = 4 ∨ H = 5 ∨ H = 6 := by omega
  rcases h2 with rfl | rfl | rfl | rfl | rfl | rfl <;> omega
theorem RasP.len {W H : Int} {l : List S59} (h : RasP W H l) : 1 ≤ l.length ∧ l.length ≤ 36 := by
  have := mulB h.1 h.2.1
  have := h.2.2.1
  omega
theorem all_drop {l : List S59} {i : Nat} (h : i < l.length) : (∀ p ∈ l.drop i, GoodP p) ↔ GoodP l[i] ∧ ∀ p ∈ l.drop (i + 1), GoodP p := by
  rw [List.drop_eq_getElem_cons h]; exact List.forall_mem_cons
theorem specRas_l (W H : Int) (l : List S59) (hl : l.length ≤ 1099511627776) : ∀ (d i k : Nat), i + d = l.length → d < k → spec_RasOk.l0 k (i : Int) W H l = some (decide (∀ p ∈ l.drop i, GoodP p)) := by
  intro d
  induction d with
  | zero =>
    intro i k hi hk
    obtain ⟨k, rfl⟩ : ∃ m, k = m + 1 := ⟨k - 1, by omega⟩
    simp only [spec_RasOk.l0]
    rw [if_neg (by omega), List.drop_of_length_le (by omega)]; simp
  | succ d ih =>
    intro i k hi hk
    obtain ⟨k, rfl⟩ : ∃ m, k = m + 1 := ⟨k - 1, by omega⟩
    have hil : i < l.length := by omega
    simp only [spec_RasOk.l0]
    rw [if_pos (by omega), if_pos (by omega), rdP hil, specPixOk_ok, Option.bind_some]
    by_cases hp : GoodP l[i]
    · rw [if_pos (show decide (PixP l[i].f0 l[i].f1 l[i].f2 l[i].f3) = true from decide_eq_true hp), w64 (by omega) (by omega)]
      have e := ih (i + 1) k (by omega) (by omega)
      rw [Int.natCast_add] at e
      refine e.trans ?_
      congr 1
      rw [decide_eq_decide, all_drop hil]
      exact ⟨fun h => ⟨hp, h⟩, fun h => h.2⟩
    · rw [if_neg (show ¬ decide (PixP l[i].f0 l[i].f1 l[i].f2 l[i].f3) = true from fun h => hp (of_decide_eq_true h))]
      congr 1; symm
      rw [decide_eq_false_iff_not, all_drop hil]
      exact fun h => hp h.1
theorem rasP_no {W H : Int} {l : List S59} (h : ¬ ((1 ≤ W ∧ W ≤ 6) ∧ (1 ≤ H ∧ H ≤ 6) ∧ (l.length : Int) = W * H)) : decide (RasP W H l) = false := decide_eq_false fun g => h ⟨g.1, g.2.1, g.2.2.1⟩
theorem rasP_all {W H : Int} {l : List S59} (hW : 1 ≤ W ∧ W ≤ 6) (hH : 1 ≤ H ∧ H ≤ 6) (hn : (l.length : Int) = W * H) : decide (∀ p ∈ l.drop 0, GoodP p) = decide (RasP W H l) := by
  rw [decide_eq_decide, List.drop_zero]
  exact ⟨fun h => ⟨hW, hH, hn, h⟩, fun h => h.2.2.2⟩
theorem specRasOk_ok (W H : Int) (l : List S59) (hl : l.length ≤ 1099511627776) (k : Nat) (hk : l.length + 2 ≤ k) : spec_RasOk.f k W H l = some (decide (RasP W H l)) := by
  have hj (b : Bool) (k : Nat) (hk : l.length + 2 ≤ k) : spec_RasOk.j0 k b W H l = if b = true then some false else some (decide (∀ p ∈ l.drop 0, GoodP p)) := by
    obtain ⟨k, rfl⟩ : ∃ m, k = m + 1 := ⟨k - 1, by omega⟩
    simp only [spec_RasOk.j0]
    rw [show (0 : Int) = ((0 : Nat) : Int) from rfl, specRas_l W H l hl l.length 0 k (by omega) (by omega)]
  unfold spec_RasOk.f
  rw [l1In_ok, Option.bind_some]
  by_cases hW : 1 ≤ W ∧ W ≤ 6
  · rw [if_pos (decide_eq_true hW), l1In_ok, Option.bind_some]
    by_cases hH : 1 ≤ H ∧ H ≤ 6
    · have hm := mulB hW hH
      rw [if_pos (decide_eq_true hH), hj _ k hk, w64 (by omega) (by omega)]
      by_cases hn : (l.length : Int) = W * H
      · rw [if_neg (by simpa using hn), rasP_all hW hH hn]
      · rw [if_pos (by simpa using hn), rasP_no (fun h => hn h.2.2)]
    · rw [if_neg (show ¬ decide (1 ≤ H ∧ H ≤ 6) = true from fun h => hH (of_decide_eq_true h)), hj _ k hk, if_pos rfl, rasP_no (fun h => hH h.2.1)]
  · rw [if_neg (show ¬ decide (1 ≤ W ∧ W ≤ 6) = true from fun h => hW (of_decide_eq_true h)), hj _ k hk, if_pos rfl, rasP_no (fun h => hW h.1)]
end Go.Proofs.Ytfnkaccncmjnaaa.Pl
namespace Go.Proofs.Ytfnkaccncmjnaaa.Pl
open Go Go.RowKit Go.Proofs.Ytfnkaccncmjnaaa.X Go.Proofs.YtfnkaccncmjnaaaW.PrintWords Go.Proofs.YtfnkaccncmjnaaaW.PrintLast Go.Proofs.YtfnkaccncmjnaaaW.PrintMore
theorem rdAll {P : Int → Prop} {l : List Int} (h : ∀ x ∈ l, P x) {i : Int} (h0 : 0 ≤ i) (h1 : i < (l.length : Int)) : P (rd l i) := by
  obtain ⟨m, rfl⟩ := Int.eq_ofNat_of_zero_le h0
  rw [rd_lt (show m < l.length by omega)]
  exact h _ (List.getElem_mem _)
theorem pix_ok (s : List Int) (hs : Bytes s) (hl : s.length ≤ 2000) (p : Int) (h0 : 0 ≤ p) (h1 : p ≤ 900000) :
    ∃ a b c d, (∀ k, 1 ≤ k → spec_l20Pix.f k s p = some (a, b, c, d, p + 1 + 1 + 1 + 1 + 1 + 1 + 1 + 1)) ∧ PixP a b c d := by
  obtain ⟨r1, e1, l1, u1, _⟩ := pick_ok s hs hl p 256 h0 (by omega)
  obtain ⟨r2, e2, l2, u2, _⟩ := pick_ok s hs hl (p + 1) 3 (by omega) (by omega)
  obtain ⟨r3, e3, l3, u3, _⟩ := pick_ok s hs hl (p + 1 + 1) 256 (by omega) (by omega)
  obtain ⟨r4, e4, l4, u4, _⟩ := pick_ok s hs hl (p + 1 + 1 + 1) 2 (by omega) (by omega)
  obtain ⟨r5, e5, l5, u5, _⟩ := pick_ok s hs hl (p + 1 + 1 + 1 + 1) 256 (by omega) (by omega)
  obtain ⟨r6, e6, l6, u6, _⟩ := pick_ok s hs hl (p + 1 + 1 + 1 + 1 + 1) 2 (by omega) (by omega)
  obtain ⟨r7, e7, l7, u7, _⟩ := pick_ok s hs hl (p + 1 + 1 + 1 + 1 + 1 + 1) 256 (by omega) (by omega)
  obtain ⟨r8, e8, l8, u8, _⟩ := pick_ok s hs hl (p + 1 + 1 + 1 + 1 + 1 + 1 + 1) 4 (by omega) (by omega)
  replace u1 := u1 (by omega)
  replace u2 := u2 (by omega)
  replace u3 := u3 (by omega)
  replace u4 := u4 (by omega)
  replace u5 := u5 (by omega)
  replace u6 := u6 (by omega)
  replace u7 := u7 (by omega)
  replace u8 := u8 (by omega)
  have v1 : (0 : Int) ≤ rd [0, 255, r1] r2 ∧ rd [0, 255, r1] r2 ≤ 255 := rdAll (P := fun z => (0 : Int) ≤ z ∧ z ≤ 255) (by intro z hz; simp only [List.mem_cons, List.not_mem_nil, or_false] at hz; omega) l2 (by simpa using u2)
  have v2 : (0 : Int) ≤ rd [rd [0, 255, r1] r2, r3] r4 ∧ rd [rd [0, 255, r1] r2, r3] r4 ≤ 255 := rdAll (P := fun z => (0 : Int) ≤ z ∧ z ≤ 255) (by intro z hz; simp only [List.mem_cons, List.not_mem_nil, or_false] at hz; omega) l4 (by simpa using u4)
  have v3 : (0 : Int) ≤ rd [rd [0, 255, r1] r2, r5] r6 ∧ rd [rd [0, 255, r1] r2, r5] r6 ≤ 255 := rdAll (P := fun z => (0 : Int) ≤ z ∧ z ≤ 255) (by intro z hz; simp only [List.mem_cons, List.not_mem_nil, or_false] at hz; omega) l6 (by simpa using u6)
  have v4 : (0 : Int) ≤ rd [255, 255, 0, r7] r8 ∧ rd [255, 255, 0, r7] r8 ≤ 255 := rdAll (P := fun z => (0 : Int) ≤ z ∧ z ≤ 255) (by intro z hz; simp only [List.mem_cons, List.not_mem_nil, or_false] at hz; omega) l8 (by simpa using u8)
  refine ⟨_, _, _, _, fun k hk => ?_, v1, v2, v3, v4⟩
  unfold spec_l20Pix.f
  rw [e1 k hk, Option.bind_some, Option.bind_some, e2 k hk, Option.bind_some, if_pos l2, if_pos (by simpa using u2), e3 k hk, Option.bind_some, Option.bind_some, e4 k hk, Option.bind_some, if_pos l4, if_pos (by simpa using u4), e5 k hk, Option.bind_some, Option.bind_some, e6 k hk, Option.bind_some, if_pos l6, if_pos (by simpa using u6), e7 k hk, Option.bind_some, Option.bind_some, e8 k hk, Option.bind_some, if_pos l8, if_pos (by simpa using u8)]
/-- What a drawn picture is at least. -/
def RasD (W H : Int) (l : List S59) : Prop := -10 ≤ W ∧ W ≤ 10 ∧ -10 ≤ H ∧ H ≤ 10 ∧ l.length ≤ 36
theorem rasEnd (s : List Int) (hs : Bytes s) (hl : s.length ≤ 2000) (W H : Int) (hW : 1 ≤ W ∧ W ≤ 6) (hH : 1 ≤ H ∧ H ≤ 6) (x : List S59) (hx : (x.length : Int) = W * H) (hg : ∀ q ∈ x, GoodP q) (n i p a b c d : Int) (hi : i = W * H) (h0 : 0 ≤ p) (h1 : p ≤ 800000) (hn : n ≤ 1000000) :
    ∃ W' H' l q, (∀ k, 1 ≤ k → spec_l20Ras.l0 (k + 1) n i s p W H x a b c d = some (W', H', l, q)) ∧ p ≤ q ∧ q ≤ p + 10 ∧ RasD W' H' l ∧ (n ≤ 0 → RasP W' H' l) := by
  have hm := mulB hW hH
  obtain ⟨o, q1, eo, ho0, ho1, hof⟩ := odd_ok s hs hl p n h0 (by omega) hn
  cases o with
  | false =>
    refine ⟨W, H, x, q1, fun k hk => ?_, by omega, by omega, ⟨by omega, by omega, by omega, by omega, by omega⟩, fun _ => ⟨hW, hH, hx, hg⟩⟩
    simp only [spec_l20Ras.l0]
    rw [w64 (x := W * H) (by omega) (by omega), if_neg (by omega), eo k hk, Option.bind_some, if_neg (by simp)]
  | true =>
    have hno : ¬ n ≤ 0 := fun h => by have := hof h; cases this
    obtain ⟨r, er, r0, r1, _⟩ := pick_ok s hs hl q1 4 (by omega) (by omega)
    replace r1 := r1 (by omega)
    obtain ⟨t4, e4, t0, t1, _⟩ := pick_ok s hs hl (q1 + 1) 4 (by omega) (by omega)
    replace t1 := t1 (by omega)
    obtain ⟨t2, e2, z0, z1, _⟩ := pick_ok s hs hl (q1 + 1) 2 (by omega) (by omega)
    replace z1 := z1 (by omega)
    obtain ⟨tl, el, y0, y1, _⟩ := pick_ok s hs hl (q1 + 1) (x.length : Int) (by omega) (by omega)
    replace y1 := y1 (by omega)
    obtain ⟨te, ee, v0, v1, _⟩ := pick_ok s hs hl (q1 + 1 + 1) 2 (by omega) (by omega)
    replace v1 := v1 (by omega)
    by_cases c0 : r = 0
    · have hv : (-10 : Int) ≤ rd [0, -1, 7, W + 1] t4 ∧ rd [0, -1, 7, W + 1] t4 ≤ 10 := rdAll (P := fun z => (-10 : Int) ≤ z ∧ z ≤ 10) (by intro z hz; simp only [List.mem_cons, List.not_mem_nil, or_false] at hz; omega) t0 (by simpa using t1)
      refine ⟨rd [0, -1, 7, W + 1] t4, H, x, q1 + 1 + 1, fun k hk => ?_, ?_, ?_, ⟨hv.1, hv.2, by omega, by omega, by omega⟩, fun h => absurd h hno⟩
      · simp only [spec_l20Ras.l0]
        rw [w64 (x := W * H) (by omega) (by omega), if_neg (by omega), eo k hk, Option.bind_some, if_pos rfl, er k hk, Option.bind_some, if_pos c0, Option.bind_some, e4 k hk, Option.bind_some, if_pos t0, if_pos (by simpa using t1), w64 (by omega) (by omega)]
      · omega
      · omega
    by_cases c1 : r = 1
    · have hv : (-10 : Int) ≤ rd [0, 7] t2 ∧ rd [0, 7] t2 ≤ 10 := rdAll (P := fun z => (-10 : Int) ≤ z ∧ z ≤ 10) (by intro z hz; simp only [List.mem_cons, List.not_mem_nil, or_false] at hz; omega) z0 (by simpa using z1)
      refine ⟨W, rd [0, 7] t2, x, q1 + 1 + 1, fun k hk => ?_, ?_, ?_, ⟨by omega, by omega, hv.1, hv.2, by omega⟩, fun h => absurd h hno⟩
      · simp only [spec_l20Ras.l0]
        rw [w64 (x := W * H) (by omega) (by omega), if_neg (by omega), eo k hk, Option.bind_some, if_pos rfl, er k hk, Option.bind_some, if_neg c0, if_pos c1, Option.bind_some, e2 k hk, Option.bind_some, if_pos z0, if_pos (by simpa using z1)]
      · omega
      · omega
    by_cases c2 : r = 2
    · refine ⟨W, H, x.drop (1 : Int).toNat, q1 + 1, fun k hk => ?_, ?_, ?_, ⟨by omega, by omega, by omega, by omega, by rw [List.length_drop]; omega⟩, fun h => absurd h hno⟩
      · simp only [spec_l20Ras.l0]
        rw [w64 (x := W * H) (by omega) (by omega), if_neg (by omega), eo k hk, Option.bind_some, if_pos rfl, er k hk, Option.bind_some, if_neg c0, if_neg c1, if_pos c2, if_pos (by omega)]
      · omega
      · omega
    · refine ⟨W, H, x.set tl.toNat ⟨(rd_T59 x tl).f0, rd [-1, 256] te, (rd_T59 x tl).f2, (rd_T59 x tl).f3⟩, q1 + 1 + 1 + 1, fun k hk => ?_, ?_, ?_, ⟨by omega, by omega, by omega, by omega, by rw [List.length_set]; omega⟩, fun h => absurd h hno⟩
      · simp only [spec_l20Ras.l0]
        rw [w64 (x := W * H) (by omega) (by omega), if_neg (by omega), eo k hk, Option.bind_some, if_pos rfl, er k hk, Option.bind_some, if_neg c0, if_neg c1, if_neg c2, el k hk, Option.bind_some, Option.bind_some, ee k hk, Option.bind_some, if_pos v0, if_pos (by simpa using v1), if_pos y0, if_pos (by omega)]
      · omega
      · omega
theorem ras_l (s : List Int) (hs : Bytes s) (hl : s.length ≤ 2000) (W H : Int) (hW : 1 ≤ W ∧ W ≤ 6) (hH : 1 ≤ H ∧ H ≤ 6) (n : Int) (hn : n ≤ 1000000) : ∀ (t : Nat) (x : List S59) (p a b c d : Int), (x.length : Int) + t = W * H → (∀ q ∈ x, GoodP q) → PixP a b c d → 0 ≤ p → p + 9 * t ≤ 700000 →
    ∃ W' H' l q, (∀ k, t + 2 ≤ k → spec_l20Ras.l0 k n (x.length : Int) s p W H x a b c d = some (W', H', l, q)) ∧ p ≤ q ∧ q ≤ p + 9 * t + 10 ∧ RasD W' H' l ∧ (n ≤ 0 → RasP W' H' l) := by
  have hm := mulB hW hH
  intro t
  induction t with
  | zero =>
    intro x p a b c d hx hg _ h0 h1
    obtain ⟨W', H', l, q, he, h2, h3, h4, h5⟩ := rasEnd s hs hl W H hW hH x (by omega) hg n (x.length : Int) p a b c d (by omega) h0 (by omega) hn
    refine ⟨W', H', l, q, fun k hk => ?_, h2, by omega, h4, h5⟩
    obtain ⟨k, rfl⟩ : ∃ m, k = m + 1 := ⟨k - 1, by omega⟩
    exact he k (by omega)
  | succ t ih =>
    intro x p a b c d hx hg hp h0 h1
    obtain ⟨r, er, r0, r1, _⟩ := pick_ok s hs hl p 3 h0 (by omega)
    by_cases hr : r > 0
    · obtain ⟨a', b', c', d', ep, hp'⟩ := pix_ok s hs hl (p + 1) (by omega) (by omega)
      obtain ⟨W', H', l, q, he, h2, h3, h4, h5⟩ := ih (x ++ [⟨a', b', c', d'⟩]) (p + 1 + 1 + 1 + 1 + 1 + 1 + 1 + 1 + 1) a' b' c' d' (by rw [List.length_append, List.length_singleton]; omega) (fun q hq => by
        rcases List.mem_append.1 hq with hq | hq
        · exact hg q hq
        · rw [List.mem_singleton] at hq; subst hq; exact hp') hp' (by omega) (by omega)
      refine ⟨W', H', l, q, fun k hk => ?_, by omega, by omega, h4, h5⟩
      obtain ⟨k, rfl⟩ : ∃ m, k = m + 1 := ⟨k - 1, by omega⟩
      simp only [spec_l20Ras.l0]
      rw [w64 (x := W * H) (by omega) (by omega), if_pos (by omega), er k (by omega), Option.bind_some, if_pos hr, ep k (by omega), Option.bind_some, if_pos (by omega), w64 (by omega) (by omega)]
      have e := he k (by omega)
      rw [List.length_append, List.length_singleton, Int.natCast_add] at e
      exact e
    · obtain ⟨W', H', l, q, he, h2, h3, h4, h5⟩ := ih (x ++ [⟨a, b, c, d⟩]) (p + 1) a b c d (by rw [List.length_append, List.length_singleton]; omega) (fun q hq => by
        rcases List.mem_append.1 hq with hq | hq
        · exact hg q hq
        · rw [List.mem_singleton] at hq; subst hq; exact hp) hp (by omega) (by omega)
      refine ⟨W', H', l, q, fun k hk => ?_, by omega, by omega, h4, h5⟩
      obtain ⟨k, rfl⟩ : ∃ m, k = m + 1 := ⟨k - 1, by omega⟩
      simp only [spec_l20Ras.l0]
      rw [w64 (x := W * H) (by omega) (by omega), if_pos (by omega), er k (by omega), Option.bind_some, if_neg hr, if_pos (by omega), w64 (by omega) (by omega)]
      have e := he k (by omega)
      rw [List.length_append, List.length_singleton, Int.natCast_add] at e
      exact e
theorem ras_ok (s : List Int) (hs : Bytes s) (hl : s.length ≤ 2000) (p n : Int) (h0 : 0 ≤ p) (h1 : p ≤ 600000) (hn : n ≤ 1000000) :
    ∃ W H l q, (∀ k, 50 ≤ k → spec_l20Ras.f k s p n = some (W, H, l, q)) ∧ p ≤ q ∧ q ≤ p + 500 ∧ RasD W H l ∧ (n ≤ 0 → RasP W H l) := by
  obtain ⟨r1, e1, l1, u1, _⟩ := pick_ok s hs hl p 6 h0 (by omega)
  obtain ⟨r2, e2, l2, u2, _⟩ := pick_ok s hs hl (p + 1) 6 (by omega) (by omega)
  replace u1 := u1 (by omega)
  replace u2 := u2 (by omega)
  obtain ⟨a, b, c, d, ep, hp⟩ := pix_ok s hs hl (p + 1 + 1) (by omega) (by omega)
  have hW : 1 ≤ 1 + r1 ∧ 1 + r1 ≤ 6 := ⟨by omega, by omega⟩
  have hH : 1 ≤ 1 + r2 ∧ 1 + r2 ≤ 6 := ⟨by omega, by omega⟩
  have hm := mulB hW hH
  obtain ⟨t, ht⟩ := Int.eq_ofNat_of_zero_le (show 0 ≤ (1 + r1) * (1 + r2) by omega)
  obtain ⟨W, H, l, q, he, h2, h3, h4, h5⟩ := ras_l s hs hl (1 + r1) (1 + r2) hW hH n hn t [] (p + 1 + 1 + 1 + 1 + 1 + 1 + 1 + 1 + 1 + 1) a b c d (by simp; omega) (fun q hq => by cases hq) hp (by omega) (by omega)
  refine ⟨W, H, l, q, fun k hk => ?_, by omega, by omega, h4, h5⟩
  unfold spec_l20Ras.f
  rw [e1 k (by omega), Option.bind_some, e2 k (by omega), Option.bind_some, ep k (by omega), Option.bind_some, w64 (by omega) (by omega), w64 (by omega) (by omega)]
  exact he k (by omega)
end Go.Proofs.Ytfnkaccncmjnaaa.Pl
namespace Go.Proofs.Ytfnkaccncmjnaaa.Pl
open Go Go.RowKit Go.Proofs.Ytfnkaccncmjnaaa.X Go.Proofs.YtfnkaccncmjnaaaW.PrintWords Go.Proofs.YtfnkaccncmjnaaaW.PrintLast Go.Proofs.YtfnkaccncmjnaaaW.PrintMore
theorem bytes_l (s : List Int) (hs : Bytes s) (hl : s.length ≤ 2000) : ∀ (d : Nat) (x : List Int) (p : Int), Bytes x → x.length + d ≤ 100000 → d ≤ 10000 → 0 ≤ p → p + 3 * d ≤ 200000 →
    ∃ y q, (∀ k, d + 1 ≤ k → spec_l20Bytes.l0 k x (d : Int) s p = some (y, q)) ∧ Bytes y ∧ y.length = x.length + d ∧ p ≤ q ∧ q = p + 3 * d := by
  intro d
  induction d with
  | zero =>
    intro x p hx hxl hd h0 h1
    refine ⟨x, p, fun k hk => ?_, hx, by omega, by omega, by omega⟩
    obtain ⟨k, rfl⟩ : ∃ m, k = m + 1 := ⟨k - 1, by omega⟩
    simp only [spec_l20Bytes.l0]
    rw [if_neg (by omega)]
  | succ d ih =>
    intro x p hx hxl hd h0 h1
    obtain ⟨a, ha, ha0, ha1, _⟩ := pick_ok s hs hl p 256 h0 (by omega)
    obtain ⟨b, hb, hb0, hb1, _⟩ := pick_ok s hs hl (p + 1) 4 (by omega) (by omega)
    obtain ⟨c, hc, hc0, hc1, _⟩ := pick_ok s hs hl (p + 1 + 1) 3 (by omega) (by omega)
    have ha1 := ha1 (by omega)
    have hb1 := hb1 (by omega)
    have hc1 := hc1 (by omega)
    obtain ⟨y, q, hy, hyb, hyl, hq0, hq1⟩ := ih (x ++ [(rd [a, b, 255] c) % 256]) (p + 1 + 1 + 1) (bytes_snoc hx (byte_mod _)) (by rw [List.length_append, List.length_singleton]; omega) (by omega) (by omega) (by omega)
    refine ⟨y, q, fun k hk => ?_, hyb, by rw [hyl, List.length_append, List.length_singleton]; omega, by omega, by omega⟩
    obtain ⟨k, rfl⟩ : ∃ m, k = m + 1 := ⟨k - 1, by omega⟩
    simp only [spec_l20Bytes.l0]
    rw [if_pos (by omega), ha k (by omega)]
    simp only [Option.bind_some]
    rw [hb k (by omega)]
    simp only [Option.bind_some]
    rw [hc k (by omega)]
    simp only [Option.bind_some]
    rw [if_pos hc0, if_pos (by simpa using hc1), if_pos (by omega), w64 (by omega) (by omega), show (((d + 1 : Nat) : Int) - 1) = (d : Int) by omega]
    exact hy k (by omega)
theorem bytes_ok (s : List Int) (hs : Bytes s) (hl : s.length ≤ 2000) (p n : Int) (h0 : 0 ≤ p) (h1 : p ≤ 1000) (hn0 : 0 ≤ n) (hn : n ≤ 1000) :
    ∃ y q, (∀ k, n.toNat + 2 ≤ k → spec_l20Bytes.f k s p n = some (y, q)) ∧ Bytes y ∧ (y.length : Int) ≤ n ∧ p ≤ q ∧ q ≤ p + 1 + 3 * n := by
  obtain ⟨r, hr, hr0, hr1, _⟩ := pick_ok s hs hl p (n + 1) h0 (by omega)
  have hr1 := hr1 (by omega)
  obtain ⟨m, rfl⟩ := Int.eq_ofNat_of_zero_le hr0
  obtain ⟨y, q, hy, hyb, hyl, hq0, hq1⟩ := bytes_l s hs hl m [] (p + 1) bytes_nil (by simp; omega) (by omega) (by omega) (by omega)
  refine ⟨y, q, fun k hk => ?_, hyb, by rw [hyl]; simp; omega, by omega, by omega⟩
  unfold spec_l20Bytes.f
  rw [w64 (by omega) (by omega), hr k (by omega)]
  simp only [Option.bind_some]
  exact hy k (by omega)
end Go.Proofs.Ytfnkaccncmjnaaa.Pl
namespace Go.Proofs.Ytfnkaccncmjnaaa.Pl
open Go Go.RowKit Go.Proofs.Ytfnkaccncmjnaaa.X Go.Proofs.YtfnkaccncmjnaaaW.PrintWords Go.Proofs.YtfnkaccncmjnaaaW.PrintLast Go.Proofs.YtfnkaccncmjnaaaW.PrintMore
theorem xor_b (a b : Int) (ha : Byte a) (hb : Byte b) : Byte (Go.bits .xor .u8 a b) := by
  obtain ⟨x, rfl⟩ := Int.eq_ofNat_of_zero_le ha.1
  obtain ⟨y, rfl⟩ := Int.eq_ofNat_of_zero_le hb.1
  have hx : x < 2 ^ 8 := by have := ha.2; omega
  have hy : y < 2 ^ 8 := by have := hb.2; omega
  have hxy : x ^^^ y < 2 ^ 8 := Nat.xor_lt_two_pow hx hy
  have e : Go.bits .xor .u8 (x : Int) (y : Int) = IntKind.u8.wrap ((x ^^^ y : Nat) : Int) := by
    simp only [Go.bits, BitVec.ofInt_natCast, BitVec.toNat_xor, BitVec.toNat_ofNat]
    rw [show IntKind.bits .u8 = 8 from rfl, Nat.mod_eq_of_lt hx, Nat.mod_eq_of_lt hy]
  have e2 : IntKind.u8.wrap ((x ^^^ y : Nat) : Int) = ((x ^^^ y : Nat) : Int) := by
    unfold IntKind.wrap
    simp only [IntKind.signed, IntKind.bits]
    simp
    omega
  rw [e, e2]
  exact ⟨by omega, by omega⟩
theorem turn_ok (s : List Int) (hs : Bytes s) (hl : s.length ≤ 2000) (p : Int) (h0 : 0 ≤ p) (h1 : p ≤ 900000) (b : List Int) (hb : Bytes b) (hbl : b.length ≤ 1000) :
    ∃ t q, (∀ k, 1 ≤ k → spec_l20Turn.f k s p b = some (t, q)) ∧ Bytes t ∧ t.length ≤ 1001 := by
  obtain ⟨r0, e0, l0, u0, _⟩ := pick_ok s hs hl p 256 h0 (by omega)
  by_cases hz : (b.length : Int) = 0
  · refine ⟨[r0 % 256], p + 1, fun k hk => ?_, ?_, by simp⟩
    · unfold spec_l20Turn.f
      rw [if_pos hz, e0 k hk, Option.bind_some]
    · intro x hx
      rw [List.mem_singleton] at hx
      subst hx
      exact byte_mod _
  obtain ⟨r1, e1, l1, u1, _⟩ := pick_ok s hs hl p (b.length : Int) h0 (by omega)
  obtain ⟨r2, e2, l2, u2, _⟩ := pick_ok s hs hl (p + 1) 3 (by omega) (by omega)
  obtain ⟨r3, e3, l3, u3, _⟩ := pick_ok s hs hl (p + 1 + 1) 9 (by omega) (by omega)
  obtain ⟨r4, e4, l4, u4, _⟩ := pick_ok s hs hl (p + 1 + 1) 255 (by omega) (by omega)
  replace u1 := u1 (by omega)
  have t1 : (b.take r1.toNat).length ≤ 1000 := by rw [List.length_take]; omega
  have t2 : (b.drop (r1 + 1).toNat).length ≤ 1000 := by rw [List.length_drop]; omega
  have t3 : (b.drop r1.toNat).length ≤ 1000 := by rw [List.length_drop]; omega
  by_cases c0 : r2 = 0
  · refine ⟨[] ++ b.take r1.toNat ++ b.drop (r1 + 1).toNat, p + 1 + 1, fun k hk => ?_, bytes_append (bytes_append bytes_nil (bytes_take hb _)) (bytes_drop hb _), by rw [List.length_append, List.length_append, List.length_nil, List.length_take, List.length_drop]; omega⟩
    unfold spec_l20Turn.f
    rw [if_neg hz, e1 k hk, Option.bind_some, e2 k hk, Option.bind_some]
    dsimp only
    rw [if_pos c0, Option.bind_some, if_pos l1, if_pos (show r1 ≤ (b.length : Int) by omega), if_pos (by rw [List.length_nil]; omega), Option.bind_some, w64 (x := r1 + 1) (by omega) (by omega), if_pos (by omega), if_pos (by omega), if_pos (by rw [List.length_append, List.length_nil]; omega)]
  by_cases c1 : r2 = 1
  · refine ⟨[] ++ b.take r1.toNat ++ [r3 % 256] ++ b.drop r1.toNat, p + 1 + 1 + 1, fun k hk => ?_, bytes_append (bytes_snoc (bytes_append bytes_nil (bytes_take hb _)) (byte_mod _)) (bytes_drop hb _), by rw [List.length_append, List.length_append, List.length_append, List.length_nil, List.length_singleton, List.length_take, List.length_drop]; omega⟩
    unfold spec_l20Turn.f
    rw [if_neg hz, e1 k hk, Option.bind_some, e2 k hk, Option.bind_some]
    dsimp only
    rw [if_neg c0, if_pos c1, Option.bind_some, if_pos l1, if_pos (show r1 ≤ (b.length : Int) by omega), if_pos (by rw [List.length_nil]; omega), Option.bind_some, e3 k hk, Option.bind_some, if_pos (by rw [List.length_append, List.length_nil]; omega), Option.bind_some, if_pos (by rw [List.length_append, List.length_append, List.length_nil, List.length_singleton]; omega)]
  · refine ⟨([] ++ b).set r1.toNat (Go.bits .xor .u8 (rd ([] ++ b) r1) ((wrap64 (1 + r4)) % 256)), p + 1 + 1 + 1, fun k hk => ?_, ?_, by rw [List.length_set, List.nil_append]; omega⟩
    · unfold spec_l20Turn.f
      rw [if_neg hz, e1 k hk, Option.bind_some, e2 k hk, Option.bind_some]
      dsimp only
      rw [if_neg c0, if_neg c1, Option.bind_some, if_pos (by rw [List.length_nil]; omega), Option.bind_some, if_pos l1, if_pos (by rw [List.nil_append]; omega), e4 k hk, Option.bind_some]
    · rw [List.nil_append]
      exact bytes_set hb _ (xor_b _ _ (rd_byte hb _) (byte_mod _))
end Go.Proofs.Ytfnkaccncmjnaaa.Pl
namespace Go.Proofs.Ytfnkaccncmjnaaa.Pl
open Go Go.RowKit Go.Proofs.Ytfnkaccncmjnaaa.X Go.Proofs.YtfnkaccncmjnaaaW.PrintWords Go.Proofs.YtfnkaccncmjnaaaW.PrintLast Go.Proofs.YtfnkaccncmjnaaaW.PrintMore
theorem drawBits_l (s : List Int) (hs : Bytes s) (hl : s.length ≤ 2000) : ∀ (d : Nat) (x : List Int) (p : Int), Bytes x → x.length + d ≤ 1000 → 0 ≤ p → p + d ≤ 900000 →
    ∃ y, (∀ k, d + 1 ≤ k → spec_DrawPakPut.l0 k x (d : Int) s p = some y) ∧ Bytes y ∧ y.length = x.length + d := by
  intro d
  induction d with
  | zero =>
    intro x p hx _ _ _
    refine ⟨x, fun k hk => ?_, hx, rfl⟩
    obtain ⟨k, rfl⟩ : ∃ m, k = m + 1 := ⟨k - 1, by omega⟩
    simp only [spec_DrawPakPut.l0]
    rw [if_neg (by omega)]
  | succ d ih =>
    intro x p hx h1 h2 h3
    obtain ⟨r, e, _, _, _⟩ := pick_ok s hs hl p 2 h2 (by omega)
    obtain ⟨y, hy, hyb, hyl⟩ := ih (x ++ [r % 256]) (p + 1) (bytes_snoc hx (byte_mod _)) (by rw [List.length_append, List.length_singleton]; omega) (by omega) (by omega)
    refine ⟨y, fun k hk => ?_, hyb, by rw [hyl, List.length_append, List.length_singleton]; omega⟩
    obtain ⟨k, rfl⟩ : ∃ m, k = m + 1 := ⟨k - 1, by omega⟩
    simp only [spec_DrawPakPut.l0]
    rw [if_pos (by omega), e k (by omega), Option.bind_some, if_pos (by omega), w64 (by omega) (by omega), show ((d + 1 : Nat) : Int) - 1 = (d : Int) by omega]
    exact hy k (by omega)
theorem l3_l (W H : Int) (l : List S59) (hl : l.length ≤ 1000) : ∀ (d i : Nat) (x : List Int), i + d = l.length → Bytes x → x.length ≤ 10000 → x.length + 4 * d ≤ 10000 →
    ∃ y, (∀ k, d < k → spec_l3Bytes.l0 k x (i : Int) W H l = some y) ∧ Bytes y ∧ y.length = x.length + 4 * d := by
  intro d
  induction d with
  | zero =>
    intro i x hi hx _ _
    refine ⟨x, fun k hk => ?_, hx, rfl⟩
    obtain ⟨k, rfl⟩ : ∃ m, k = m + 1 := ⟨k - 1, by omega⟩
    simp only [spec_l3Bytes.l0]
    rw [if_neg (by omega)]
  | succ d ih =>
    intro i x hi hx h1 h2
    have hq : Bytes [(l[i]'(by omega)).f0 % 256, (l[i]'(by omega)).f1 % 256, (l[i]'(by omega)).f2 % 256, (l[i]'(by omega)).f3 % 256] := by
      intro z hz
      simp only [List.mem_cons, List.not_mem_nil, or_false] at hz
      rcases hz with rfl | rfl | rfl | rfl <;> exact byte_mod _
    obtain ⟨y, hy, hyb, hyl⟩ := ih (i + 1) (x ++ [(l[i]'(by omega)).f0 % 256, (l[i]'(by omega)).f1 % 256, (l[i]'(by omega)).f2 % 256, (l[i]'(by omega)).f3 % 256]) (by omega) (bytes_append hx hq) (by simp; omega) (by simp; omega)
    refine ⟨y, fun k hk => ?_, hyb, by rw [hyl]; simp; omega⟩
    obtain ⟨k, rfl⟩ : ∃ m, k = m + 1 := ⟨k - 1, by omega⟩
    simp only [spec_l3Bytes.l0]
    rw [if_pos (by omega), if_pos (by omega), rdP (show i < l.length by omega), Option.bind_some, if_pos (by simp; omega), w64 (by omega) (by omega), show (i : Int) + 1 = ((i + 1 : Nat) : Int) by omega]
    exact hy k (by omega)
theorem rasB_ok (W H : Int) (l : List S59) (hl : l.length ≤ 36) : ∃ y, (∀ k, 100 ≤ k → spec_RasBytes.f k W H l = some y) ∧ Bytes y ∧ y.length ≤ 146 := by
  by_cases hr : RasP W H l
  · obtain ⟨y, hy, hyb, hyl⟩ := l3_l W H l (by omega) l.length 0 [W % 256, H % 256] (by omega) (fun z hz => by
      simp only [List.mem_cons, List.not_mem_nil, or_false] at hz
      rcases hz with rfl | rfl <;> exact byte_mod _) (by simp) (by simp; omega)
    refine ⟨y, fun k hk => ?_, hyb, by rw [hyl]; simp; omega⟩
    unfold spec_RasBytes.f
    rw [specRasOk_ok W H l (by omega) k (by omega), Option.bind_some, if_pos (decide_eq_true hr)]
    unfold spec_l3Bytes.f
    have := hy k (by omega)
    rw [show ((0 : Nat) : Int) = 0 from rfl] at this
    rw [this, Option.bind_some]
  · refine ⟨[], fun k hk => ?_, bytes_nil, by simp⟩
    unfold spec_RasBytes.f
    rw [specRasOk_ok W H l (by omega) k (by omega), Option.bind_some, if_neg (fun h => hr (of_decide_eq_true h))]
theorem drawPakPut_ok (l : List Int) (hb : Bytes l) : ∃ y, (∀ k, 300 ≤ k → spec_DrawPakPut.f k l = some y) ∧ Bytes y ∧ y.length ≤ 201 := by
  obtain ⟨s, ho, hs, hl, _⟩ := open_ok l hb
  obtain ⟨r, e, r0, r1, _⟩ := pick_ok s hs hl 0 4 (by omega) (by omega)
  by_cases c0 : r = 0
  · obtain ⟨W, H, q, t, e2, _, _, hD, _⟩ := ras_ok s hs hl (0 + 1) 0 (by omega) (by omega) (by omega)
    obtain ⟨y, hy, hyb, hyl⟩ := rasB_ok W H q hD.2.2.2.2
    refine ⟨y, fun k hk => ?_, hyb, by omega⟩
    unfold spec_DrawPakPut.f
    rw [ho, Option.bind_some, e k (by omega), Option.bind_some]
    dsimp only
    rw [if_pos c0, e2 k (by omega), Option.bind_some, hy k (by omega), Option.bind_some]
  by_cases c1 : r = 1
  · obtain ⟨r2, e2, r20, r21, _⟩ := pick_ok s hs hl (0 + 1) 200 (by omega) (by omega)
    obtain ⟨d, rfl⟩ := Int.eq_ofNat_of_zero_le r20
    replace r21 := r21 (by omega)
    obtain ⟨y, hy, hyb, hyl⟩ := drawBits_l s hs hl d [] (0 + 1 + 1) bytes_nil (by simp; omega) (by omega) (by omega)
    refine ⟨y, fun k hk => ?_, hyb, by rw [hyl]; simp; omega⟩
    unfold spec_DrawPakPut.f
    rw [ho, Option.bind_some, e k (by omega), Option.bind_some]
    dsimp only
    rw [if_neg c0, if_pos c1, e2 k (by omega), Option.bind_some]
    exact hy k (by omega)
  by_cases c2 : r = 2
  · obtain ⟨r2, e2, r20, r21, _⟩ := pick_ok s hs hl (0 + 1) 3 (by omega) (by omega)
    replace r21 := r21 (by omega)
    have hv := rdAll (P := fun x => 0 ≤ x ∧ x ≤ 201) (l := [200, 201, 9]) (fun x hx => by
      simp only [List.mem_cons, List.not_mem_nil, or_false] at hx
      rcases hx with rfl | rfl | rfl <;> omega) r20 (by simpa using r21)
    refine ⟨List.replicate (rd [200, 201, 9] r2).toNat 0, fun k hk => ?_, bytes_rep _, by rw [List.length_replicate]; omega⟩
    unfold spec_DrawPakPut.f
    rw [ho, Option.bind_some, e k (by omega), Option.bind_some]
    dsimp only
    rw [if_neg c0, if_neg c1, if_pos c2, Option.bind_some, e2 k (by omega), Option.bind_some]
    dsimp only
    rw [if_pos r20, if_pos (by simpa using r21), if_pos hv.1, if_pos (by omega)]
  · obtain ⟨y, q, e2, hyb, hyl, _, _⟩ := bytes_ok s hs hl (0 + 1) 40 (by omega) (by omega) (by omega) (by omega)
    refine ⟨y, fun k hk => ?_, hyb, by omega⟩
    unfold spec_DrawPakPut.f
    rw [ho, Option.bind_some, e k (by omega), Option.bind_some]
    dsimp only
    rw [if_neg c0, if_neg c1, if_neg c2, e2 k (by show (40 : Int).toNat + 2 ≤ k; have : (40 : Int).toNat = 40 := rfl; omega), Option.bind_some]
theorem drawNums_l (s : List Int) (hs : Bytes s) (hl : s.length ≤ 2000) : ∀ (d : Nat) (x : List S36) (p : Int), x.length + d ≤ 100 → 0 ≤ p → p + 3 * d ≤ 800000 →
    ∃ y, (∀ k, d + 3000 ≤ k → spec_DrawPakGet.l0 k x (d : Int) s p = some y) ∧ Bytes y ∧ y.length ≤ 400 := by
  intro d
  induction d with
  | zero =>
    intro x p h1 _ _
    refine ⟨res (x ++ [⟨256, 9⟩]) [] 0, fun k hk => ?_, res_bytes _, res_len _⟩
    obtain ⟨k, rfl⟩ : ∃ m, k = m + 1 := ⟨k - 1, by omega⟩
    simp only [spec_DrawPakGet.l0]
    rw [if_neg (by omega), if_pos (by omega), specPut_ok _ (by simp; omega) k (by simp; omega), Option.bind_some]
  | succ d ih =>
    intro x p h1 h2 h3
    obtain ⟨r1, e1, _, _, _⟩ := pick_ok s hs hl p 3 h2 (by omega)
    obtain ⟨r2, e2, _, _, _⟩ := pick_ok s hs hl (p + 1) 6 (by omega) (by omega)
    obtain ⟨r3, e3, r30, r31, _⟩ := pick_ok s hs hl (p + 1 + 1) 6 (by omega) (by omega)
    replace r31 := r31 (by omega)
    have hv := rdAll (P := fun x => 0 ≤ x ∧ x < 3) (l := [0, 0, 1, 1, 1, 2]) (fun x hx => by
      simp only [List.mem_cons, List.not_mem_nil, or_false] at hx
      rcases hx with rfl | rfl | rfl | rfl | rfl | rfl <;> omega) r30 (by simpa using r31)
    obtain ⟨y, hy, hyb, hyl⟩ := ih (x ++ [⟨rd [r1, wrap64 (257 + r2), 256] (rd [0, 0, 1, 1, 1, 2] r3), 9⟩]) (p + 1 + 1 + 1) (by rw [List.length_append, List.length_singleton]; omega) (by omega) (by omega)
    refine ⟨y, fun k hk => ?_, hyb, hyl⟩
    obtain ⟨k, rfl⟩ : ∃ m, k = m + 1 := ⟨k - 1, by omega⟩
    simp only [spec_DrawPakGet.l0]
    rw [if_pos (by omega), e1 k (by omega), Option.bind_some, e2 k (by omega), Option.bind_some, Option.bind_some, Option.bind_some, e3 k (by omega), Option.bind_some, if_pos r30, if_pos (by simpa using r31), if_pos hv.1, if_pos (by simpa using hv.2), if_pos (by omega), w64 (x := ((d + 1 : Nat) : Int) - 1) (by omega) (by omega), show ((d + 1 : Nat) : Int) - 1 = (d : Int) by omega]
    exact hy k (by omega)
theorem drawPakGet_ok (l : List Int) (hb : Bytes l) : ∃ y, (∀ k, 7000 ≤ k → spec_DrawPakGet.f k l = some y) ∧ Bytes y ∧ y.length ≤ 1001 := by
  obtain ⟨s, ho, hs, hl, _⟩ := open_ok l hb
  obtain ⟨b, q, eb, hbb, hbl, hq0, hq1⟩ := bytes_ok s hs hl 0 30 (by omega) (by omega) (by omega) (by omega)
  have hp := pkPutR_bytes b
  have hpl := pkPutR_len b
  obtain ⟨r, e, r0, r1, _⟩ := pick_ok s hs hl q 4 (by omega) (by omega)
  by_cases c0 : r = 0
  · obtain ⟨t, q2, et, htb, htl⟩ := turn_ok s hs hl (q + 1) (by omega) (by omega) (pkPutR b) hp (by omega)
    refine ⟨t, fun k hk => ?_, htb, htl⟩
    unfold spec_DrawPakGet.f
    rw [ho, Option.bind_some, eb k (by show (30 : Int).toNat + 2 ≤ k; have : (30 : Int).toNat = 30 := rfl; omega), Option.bind_some]
    dsimp only
    rw [specPakPut_ok b hbb k (by omega), Option.bind_some, e k (by omega), Option.bind_some]
    dsimp only
    rw [if_pos c0, et k (by omega), Option.bind_some]
  by_cases c1 : r = 1
  · obtain ⟨r2, e2, r20, r21, _⟩ := pick_ok s hs hl (q + 1) 12 (by omega) (by omega)
    obtain ⟨d, rfl⟩ := Int.eq_ofNat_of_zero_le r20
    replace r21 := r21 (by omega)
    obtain ⟨y, hy, hyb, hyl⟩ := drawNums_l s hs hl d [] (q + 1 + 1) (by simp; omega) (by omega) (by omega)
    refine ⟨y, fun k hk => ?_, hyb, by omega⟩
    unfold spec_DrawPakGet.f
    rw [ho, Option.bind_some, eb k (by show (30 : Int).toNat + 2 ≤ k; have : (30 : Int).toNat = 30 := rfl; omega), Option.bind_some]
    dsimp only
    rw [specPakPut_ok b hbb k (by omega), Option.bind_some, e k (by omega), Option.bind_some]
    dsimp only
    rw [if_neg c0, if_pos c1, e2 k (by omega), Option.bind_some]
    exact hy k (by omega)
  · refine ⟨pkPutR b, fun k hk => ?_, hp, by omega⟩
    unfold spec_DrawPakGet.f
    rw [ho, Option.bind_some, eb k (by show (30 : Int).toNat + 2 ≤ k; have : (30 : Int).toNat = 30 := rfl; omega), Option.bind_some]
    dsimp only
    rw [specPakPut_ok b hbb k (by omega), Option.bind_some, e k (by omega), Option.bind_some]
    dsimp only
    rw [if_neg c0, if_neg c1]
end Go.Proofs.Ytfnkaccncmjnaaa.Pl
