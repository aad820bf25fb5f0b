/- What the program's and the reference's laying of numbers into bytes come to. The numbers are fewer than 2^40. -/
import Derived.Test.YtfnkaccncmjnaaaPlPut
import Derived.Test.YtfnkaccncmjnaaaPlBitOk
import Derived.Test.YtfnkaccncmjnaaaX0
import Derived.Test.YtfnkaccncmjnaaaX4
import Derived.Test.YtfnkaccncmjnaaaX10
namespace Go.Proofs.Ytfnkaccncmjnaaa.Pl
open Go Go.RowKit Go.Proofs.Ytfnkaccncmjnaaa.X Go.Proofs.YtfnkaccncmjnaaaW.PrintWords Go.Proofs.YtfnkaccncmjnaaaW.PrintLast Go.Proofs.YtfnkaccncmjnaaaW.PrintMore

def tb : List S36 → Nat
  | [] => 0
  | x :: xs => x.f1.toNat + tb xs
def putL : List S36 → List Int → Nat → List Int
  | [], l, _ => l
  | x :: xs, l, u => putL xs (putN l u x.f0 x.f1.toNat) (u + x.f1.toNat)
def PutOk (xs : List S36) (u : Nat) : Prop := (∀ x ∈ xs, BitP x.f0 x.f1) ∧ u + tb xs ≤ 3200
instance (xs : List S36) (u : Nat) : Decidable (PutOk xs u) := by unfold PutOk; infer_instance
def res (xs : List S36) (l : List Int) (u : Nat) : List Int := if PutOk xs u then putL xs l u else []
theorem tb_append (xs ys : List S36) : tb (xs ++ ys) = tb xs + tb ys := by
  induction xs with
  | nil => simp [tb]
  | cons x xs ih => simp only [List.cons_append, tb, ih]; omega
theorem putL_append (xs ys : List S36) (l : List Int) (u : Nat) : putL (xs ++ ys) l u = putL ys (putL xs l u) (u + tb xs) := by
  induction xs generalizing l u with
  | nil => rfl
  | cons x xs ih => simp only [List.cons_append, putL, tb, ih]; rw [Nat.add_assoc]
theorem inv_putL (xs : List S36) {l : List Int} {u : Nat} (h : Inv l u) : Inv (putL xs l u) (u + tb xs) := by
  induction xs generalizing l u with
  | nil => exact h
  | cons x xs ih => simp only [putL, tb]; rw [← Nat.add_assoc]; exact ih (inv_putN h _ _)
theorem bit_putL_lt (xs : List S36) {l : List Int} {u j : Nat} (h : Inv l u) (hj : j < u) : bitAt (putL xs l u) j = bitAt l j := by
  induction xs generalizing l u with
  | nil => rfl
  | cons x xs ih => simp only [putL]; rw [ih (inv_putN h _ _) (by omega), bit_putN_lt h _ hj]
/-- The number that was laid is read again. -/
theorem sum_putL (xs : List S36) (x : S36) (ys : List S36) {l : List Int} {u : Nat} (h : Inv l u) (hx : BitP x.f0 x.f1) : bitSum (putL (xs ++ x :: ys) l u) (u + tb xs) x.f1.toNat = x.f0 := by
  rw [putL_append]
  simp only [putL]
  have hi := inv_putL xs h
  obtain ⟨_, _, h0, h1⟩ := hx
  have e : bitSum (putL ys (putN (putL xs l u) (u + tb xs) x.f0 x.f1.toNat) (u + tb xs + x.f1.toNat)) (u + tb xs) x.f1.toNat = bitSum (putN (putL xs l u) (u + tb xs) x.f0 x.f1.toNat) (u + tb xs) x.f1.toNat :=
    bitSum_congr _ (fun t ht => bit_putL_lt ys (inv_putN hi _ _) (by omega))
  rw [e, bitSum_of _ (fun t ht => bit_putN hi _ t _ ht)]
  exact Int.emod_eq_of_lt h0 h1
theorem putL_ahead (A : List Int) (xs : List S36) (l : List Int) (u : Nat) : putL xs (A ++ l) (8 * A.length + u) = A ++ putL xs l u := by
  induction xs generalizing l u with
  | nil => rfl
  | cons x xs ih => simp only [putL]; rw [putN_ahead, Nat.add_assoc]; exact ih _ _
/-! The steps of both. -/
theorem and_one64 (a : Int) (h0 : 0 ≤ a) (h1 : a < 4611686018427387904) : Go.bits .and .i64 a 1 = a % 2 := by
  obtain ⟨x, rfl⟩ := Int.eq_ofNat_of_zero_le h0
  have hx : x < 2 ^ 62 := by omega
  have e : Go.bits .and .i64 (x : Int) 1 = IntKind.i64.wrap ((x % 2 : Nat) : Int) := by
    have h1' : (1 : Int) = ((1 : Nat) : Int) := rfl
    rw [h1']
    simp only [Go.bits, BitVec.ofInt_natCast, BitVec.toNat_and, BitVec.toNat_ofNat]
    rw [show IntKind.bits .i64 = 64 from rfl, Nat.mod_eq_of_lt (by omega), show 1 % 2 ^ 64 = 1 from rfl, Nat.and_one_is_mod]
  have e2 : IntKind.i64.wrap ((x % 2 : Nat) : Int) = wrap64 ((x % 2 : Nat) : Int) := i64_w _
  rw [e, e2, w64 (by omega) (by omega)]
  omega
theorem u8_same {x : Int} (h0 : 0 ≤ x) (h1 : x ≤ 255) : IntKind.u8.wrap x = x := by rw [IntKind.wrap_u8]; omega
theorem or_bit8 (a c : Int) (m : Nat) (ha : 0 ≤ a) (ham : a < 2 ^ m) (hc : c = 0 ∨ c = 1) (h : m < 8) : Go.bits .or .u8 a (c * 2 ^ m) = a + c * 2 ^ m := by
  have h1 := pow7 h
  obtain ⟨x, rfl⟩ := Int.eq_ofNat_of_zero_le ha
  have hx : x < 2 ^ m := by rw [pow_nat] at ham; omega
  have h2 : (2 : Nat) ^ m ≤ 2 ^ 7 := Nat.pow_le_pow_right (by decide) (by omega)
  obtain ⟨d, rfl, hd⟩ : ∃ d : Nat, c = (d : Int) ∧ d ≤ 1 := by
    rcases hc with rfl | rfl
    · exact ⟨0, rfl, by omega⟩
    · exact ⟨1, rfl, by omega⟩
  have e1 : (d : Int) * 2 ^ m = ((d * 2 ^ m : Nat) : Int) := by rw [pow_nat]; simp
  have hd2 : d * 2 ^ m ≤ 2 ^ 7 := Nat.le_trans (Nat.mul_le_mul_right _ hd) (by omega)
  have hor : x ||| (d * 2 ^ m) = x + d * 2 ^ m := by
    rw [Nat.mul_comm, Nat.or_comm, ← Nat.two_pow_add_eq_or_of_lt hx, Nat.add_comm]
  have e : Go.bits .or .u8 (x : Int) ((d * 2 ^ m : Nat) : Int) = IntKind.u8.wrap ((x + d * 2 ^ m : Nat) : Int) := by
    simp only [Go.bits, BitVec.ofInt_natCast, BitVec.toNat_or, BitVec.toNat_ofNat]
    rw [show IntKind.bits .u8 = 8 from rfl, Nat.mod_eq_of_lt (by omega), Nat.mod_eq_of_lt (by omega), hor]
  rw [e1, e, u8_same (by omega) (by omega)]
  omega
theorem pow_small {n : Int} (h0 : 0 ≤ n) (h1 : n ≤ 4095) (i : Nat) : 0 ≤ n / 2 ^ i ∧ n / 2 ^ i ≤ 4095 := by
  have hp := pow_pos' i
  exact ⟨Int.ediv_nonneg h0 (by omega), Int.le_trans (Int.ediv_le_self _ h0) h1⟩
theorem implBit (x : Int) (u i : Nat) (n : Int) (hx0 : 0 ≤ x) (hx1 : x < 2 ^ (u % 8)) (h0 : 0 ≤ n) (h1 : n ≤ 4095) : impl_BitPut.bit x u n i = x + n / 2 ^ i % 2 * 2 ^ (u % 8) := by
  obtain ⟨s0, s1⟩ := pow_small h0 h1 i
  have hp := pow7 (show u % 8 < 8 by omega)
  unfold impl_BitPut.bit
  rw [Int.toNat_natCast, and_one64 _ s0 (by omega), u8_same (x := n / 2 ^ i % 2) (by omega) (by omega), show ((u : Int) % 8).toNat = u % 8 by omega]
  rw [u8_same (by rcases mod2 (n / 2 ^ i) with h | h <;> rw [h] <;> omega) (by rcases mod2 (n / 2 ^ i) with h | h <;> rw [h] <;> omega)]
  exact or_bit8 _ _ _ hx0 hx1 (mod2 _) (by omega)
theorem implGrow (l : List Int) (u : Nat) : impl_BitPut.grow l u = gro l u := by
  unfold impl_BitPut.grow gro
  by_cases e : u % 8 = 0
  · rw [if_pos e, if_pos (by omega)]
  · rw [if_neg e, if_neg (by omega)]
theorem bitP_small {n b : Int} (h : BitP n b) : 1 ≤ b ∧ b ≤ 12 ∧ 0 ≤ n ∧ n ≤ 4095 := by
  obtain ⟨h1, h2, h3, h4⟩ := h
  have := pow_le (show 0 ≤ b by omega) h2
  exact ⟨h1, h2, h3, by omega⟩
theorem implPut_l {l : List Int} {u : Nat} (h : Inv l u) (n : Int) (b : Nat) (h0 : 0 ≤ n) (h1 : n ≤ 4095) (hb : b ≤ 12) (hu : u ≤ 3200) : ∀ (d i k : Nat), i + d = b → d < k →
    impl_BitPut.put k (putN l u n i) ((u + i : Nat) : Int) n (b : Int) (i : Int) = some (putN l u n b, ((u + b : Nat) : Int)) := by
  intro d
  induction d with
  | zero =>
    intro i k hi hk
    obtain ⟨k, rfl⟩ : ∃ m, k = m + 1 := ⟨k - 1, by omega⟩
    obtain rfl : i = b := by omega
    unfold impl_BitPut.put
    rw [if_neg (by omega)]
  | succ d ih =>
    intro i k hi hk
    obtain ⟨k, rfl⟩ : ∃ m, k = m + 1 := ⟨k - 1, by omega⟩
    have hv := inv_putN h n i
    have hlen := hv.len
    obtain ⟨g1, g2, g3, g4⟩ := gro_facts hv
    unfold impl_BitPut.put
    rw [if_pos (by omega), if_pos ⟨by omega, by omega, by omega, by omega, h0, h1, by omega⟩, implGrow, show (((u + i : Nat) : Int) / 8) = (((u + i) / 8 : Nat) : Int) by omega, rd_nat, Int.toNat_natCast, implBit _ _ _ _ g3 g4 h0 h1]
    exact ih (i + 1) k (by omega) (by omega)
theorem implOne_ok {l : List Int} {u : Nat} (h : Inv l u) (n b : Int) (hu : u ≤ 3200) (k : Nat) (hk : 14 ≤ k) :
    impl_BitPut.one k l (u : Int) false n b = some (if BitP n b ∧ (u : Int) + b ≤ 3200 then (putN l u n b.toNat, ((u + b.toNat : Nat) : Int), false) else (l, (u : Int), true)) := by
  unfold impl_BitPut.one
  rw [if_neg (by decide), implBitOk_ok, Option.bind_some]
  by_cases hp : BitP n b
  · obtain ⟨b1, b2, n0, n1⟩ := bitP_small hp
    rw [decide_eq_true hp, if_neg (by decide), if_pos ⟨by omega, by omega, by omega, by omega⟩]
    by_cases ho : (u : Int) + b > 3200
    · rw [if_pos ho, if_neg (fun h => by have := h.2; omega)]
    · rw [if_neg ho, if_pos ⟨hp, by omega⟩]
      obtain ⟨m, rfl⟩ := Int.eq_ofNat_of_zero_le (show 0 ≤ b by omega)
      have := implPut_l h n m n0 n1 (by omega) hu m 0 k (by omega) (by omega)
      rw [show putN l u n 0 = l from rfl, Nat.add_zero, show ((0 : Nat) : Int) = 0 from rfl] at this
      rw [this, Option.bind_some]
      rfl
  · rw [decide_eq_false hp, if_pos rfl, if_neg (fun h => hp h.1)]
theorem rdT {xs : List S36} {i : Nat} (h : i < xs.length) : rd_T36 xs (i : Int) = xs[i] := by
  unfold rd_T36
  rw [Int.toNat_natCast, List.getD_eq_getElem?_getD, List.getElem?_eq_getElem h]; rfl
theorem implAll_bad (xs : List S36) : ∀ (d i k : Nat) (l : List Int) (u : Int), i + d = xs.length → d < k → impl_BitPut.all k xs l u true (i : Int) = some [] := by
  intro d
  induction d with
  | zero =>
    intro i k l u hi hk
    obtain ⟨k, rfl⟩ : ∃ m, k = m + 1 := ⟨k - 1, by omega⟩
    unfold impl_BitPut.all
    rw [if_neg (by omega), if_pos rfl]
  | succ d ih =>
    intro i k l u hi hk
    obtain ⟨k, rfl⟩ : ∃ m, k = m + 1 := ⟨k - 1, by omega⟩
    unfold impl_BitPut.all impl_BitPut.one
    rw [if_pos (by omega), if_pos (by omega), if_pos rfl, Option.bind_some]
    exact ih (i + 1) k l u (by omega) (by omega)
theorem good_cons {x : S36} {xs : List S36} {u : Nat} : PutOk (x :: xs) u ↔ (BitP x.f0 x.f1 ∧ (u : Int) + x.f1 ≤ 3200) ∧ PutOk xs (u + x.f1.toNat) := by
  unfold PutOk
  simp only [tb]
  constructor
  · intro h
    have hx := h.1 x (by simp)
    obtain ⟨b1, _⟩ := bitP_small hx
    exact ⟨⟨hx, by omega⟩, fun y hy => h.1 y (by simp [hy]), by omega⟩
  · intro h
    refine ⟨fun y hy => ?_, by omega⟩
    rcases List.mem_cons.1 hy with rfl | hy
    · exact h.1.1
    · exact h.2.1 y hy
theorem drop_cons {xs : List S36} {i : Nat} (h : i < xs.length) : xs.drop i = xs[i] :: xs.drop (i + 1) := List.drop_eq_getElem_cons h
theorem implAll_l (xs : List S36) : ∀ (d i k : Nat) (l : List Int) (u : Nat), i + d = xs.length → d + 16 < k → Inv l u → u ≤ 3200 → impl_BitPut.all k xs l (u : Int) false (i : Int) = some (res (xs.drop i) l u) := by
  intro d
  induction d with
  | zero =>
    intro i k l u hi hk hv hu
    obtain ⟨k, rfl⟩ : ∃ m, k = m + 1 := ⟨k - 1, by omega⟩
    unfold impl_BitPut.all
    rw [if_neg (by omega), if_neg (by decide), List.drop_eq_nil_of_le (by omega)]
    unfold res
    rw [if_pos ⟨(fun _ h => by cases h), by simp only [tb]; omega⟩]
    rfl
  | succ d ih =>
    intro i k l u hi hk hv hu
    obtain ⟨k, rfl⟩ : ∃ m, k = m + 1 := ⟨k - 1, by omega⟩
    unfold impl_BitPut.all
    rw [if_pos (by omega), if_pos (by omega), rdT (show i < xs.length by omega), implOne_ok hv _ _ hu k (by omega), Option.bind_some, drop_cons (show i < xs.length by omega)]
    by_cases hp : BitP (xs[i]'(by omega)).f0 (xs[i]'(by omega)).f1 ∧ (u : Int) + (xs[i]'(by omega)).f1 ≤ 3200
    · rw [if_pos hp]
      obtain ⟨b1, _⟩ := bitP_small hp.1
      have e := ih (i + 1) k _ _ (by omega) (by omega) (inv_putN hv (xs[i]'(by omega)).f0 (xs[i]'(by omega)).f1.toNat) (by omega)
      refine Eq.trans e ?_
      unfold res
      by_cases hg : PutOk (xs.drop (i + 1)) (u + (xs[i]'(by omega)).f1.toNat)
      · rw [if_pos hg, if_pos (good_cons.2 ⟨hp, hg⟩)]; rfl
      · rw [if_neg hg, if_neg (fun h => hg (good_cons.1 h).2)]
    · rw [if_neg hp]
      refine Eq.trans (implAll_bad xs d (i + 1) k l u (by omega) (by omega)) ?_
      unfold res
      rw [if_neg (fun h => hp (good_cons.1 h).1)]
theorem implPut_ok (xs : List S36) (k : Nat) (hk : xs.length + 16 < k) : impl_BitPut.f k xs = some (res xs [] 0) := implAll_l xs xs.length 0 k [] 0 (by omega) hk inv_nil (by omega)
/-! The reference. -/
theorem specBit (x : Int) (u i : Nat) (n : Int) (hi : i ≤ 12) (hx0 : 0 ≤ x) (hx1 : x < 2 ^ (u % 8)) (h0 : 0 ≤ n) (h1 : n ≤ 4095) : (x + shl .i64 (Int.tmod (shr .i64 n (i : Int)) 2) (((u % 8 : Nat) : Int)) % 256) % 256 = x + n / 2 ^ i % 2 * 2 ^ (u % 8) := by
  obtain ⟨s0, s1⟩ := pow_small h0 h1 i
  have hp := pow7 (show u % 8 < 8 by omega)
  rw [shr_ok _ _ _ (show i ≤ 64 by omega), Int.tmod_eq_emod_of_nonneg s0, shl_bit _ _ (mod2 _) (by omega)]
  rcases mod2 (n / 2 ^ i) with h | h <;> rw [h] <;> omega
theorem specPut_l (xs : List S36) (j : Nat) (hj : j < xs.length) (hxl : xs.length ≤ 1099511627776) {l : List Int} {u : Nat} (h : Inv l u) (b : Nat) (hb : xs[j].f1 = (b : Int)) (h0 : 0 ≤ xs[j].f0) (h1 : xs[j].f0 ≤ 4095) (hb12 : b ≤ 12) (hu : u ≤ 3300) : ∀ (d i k : Nat), i + d = b → d < k →
    spec_BitPut.l1 k xs (putN l u xs[j].f0 i) ((u + i : Nat) : Int) (j : Int) (i : Int) = spec_BitPut.l0 (k - d - 1) xs (putN l u xs[j].f0 b) ((u + b : Nat) : Int) ((j + 1 : Nat) : Int) := by
  intro d
  induction d with
  | zero =>
    intro i k hi hk
    obtain ⟨k, rfl⟩ : ∃ m, k = m + 1 := ⟨k - 1, by omega⟩
    obtain rfl : i = b := by omega
    simp only [spec_BitPut.l1]
    rw [rdT hj, hb, if_pos (by omega), if_pos (by omega), if_neg (by omega), w64 (by omega) (by omega), show k + 1 - 0 - 1 = k by omega, show ((j : Nat) : Int) + 1 = ((j + 1 : Nat) : Int) by omega]
  | succ d ih =>
    intro i k hi hk
    obtain ⟨k, rfl⟩ : ∃ m, k = m + 1 := ⟨k - 1, by omega⟩
    have hv := inv_putN h xs[j].f0 i
    have hlen := hv.len
    obtain ⟨g1, g2, g3, g4⟩ := gro_facts hv
    have hlen2 : (putN l u xs[j].f0 i).length ≤ 500 := by omega
    have hu2 : u + i ≤ 3311 := by omega
    have hq8 : (u + i) / 8 ≤ 500 := by omega
    obtain ⟨hq, hr⟩ := bit_place (u + i) (by omega)
    have e := ih (i + 1) k (by omega) (by omega)
    rw [show k + 1 - (d + 1) - 1 = k - d - 1 by omega, ← e]
    simp only [spec_BitPut.l1]
    rw [rdT hj, hb, if_pos (by omega), if_pos (by omega), if_pos (by omega), hq, hr]
    by_cases e8 : (u + i) % 8 = 0
    · have hgr : gro (putN l u xs[j].f0 i) (u + i) = putN l u xs[j].f0 i ++ [0] := by unfold gro; rw [if_pos e8]
      rw [hgr] at g1 g3 g4
      clear e hr hq hv ih hlen
      rw [if_pos (by omega), if_pos (by omega), Option.bind_some, if_pos (by omega), if_pos (by omega), if_pos (by omega), if_pos (by omega), rd_nat, specBit _ _ _ _ (by omega) g3 g4 h0 h1, w64 (by omega) (by omega), w64 (by omega) (by omega), Int.toNat_natCast, show putN l u xs[j].f0 (i + 1) = stp (putN l u xs[j].f0 i) (u + i) (xs[j].f0 / 2 ^ i % 2) from rfl]
      unfold stp
      rw [hgr, show ((u + i : Nat) : Int) + 1 = ((u + (i + 1) : Nat) : Int) by omega, show (i : Int) + 1 = ((i + 1 : Nat) : Int) by omega]
    · have hgr : gro (putN l u xs[j].f0 i) (u + i) = putN l u xs[j].f0 i := by unfold gro; rw [if_neg e8]
      rw [hgr] at g1 g3 g4
      clear e hr hq hv ih hlen
      rw [if_neg (by omega), if_pos (by omega), if_pos (by omega), if_pos (by omega), if_pos (by omega), rd_nat, specBit _ _ _ _ (by omega) g3 g4 h0 h1, w64 (by omega) (by omega), w64 (by omega) (by omega), Int.toNat_natCast, show putN l u xs[j].f0 (i + 1) = stp (putN l u xs[j].f0 i) (u + i) (xs[j].f0 / 2 ^ i % 2) from rfl]
      unfold stp
      rw [hgr, show ((u + i : Nat) : Int) + 1 = ((u + (i + 1) : Nat) : Int) by omega, show (i : Int) + 1 = ((i + 1 : Nat) : Int) by omega]
theorem specAll_over (xs : List S36) (i : Nat) (l : List Int) (u : Int) (h : (l.length : Int) > 400) (k : Nat) (hk : 2 ≤ k) : spec_BitPut.l0 k xs l u (i : Int) = some [] := by
  obtain ⟨k, rfl⟩ : ∃ m, k = m + 1 + 1 := ⟨k - 2, by omega⟩
  simp only [spec_BitPut.l0, spec_BitPut.j1]
  by_cases hi : (i : Int) < (xs.length : Int)
  · rw [if_pos hi, if_pos (by omega), specBitOk_ok, Option.bind_some]
    split
    · rw [decide_eq_true h]; rfl
    · rfl
  · rw [if_neg hi, if_pos h]
theorem specAll_l (xs : List S36) (hxl : xs.length ≤ 1099511627776) : ∀ (d i k : Nat) (l : List Int) (u : Nat), i + d = xs.length → 16 * d + 16 < k → Inv l u → u ≤ 3200 → spec_BitPut.l0 k xs l (u : Int) (i : Int) = some (res (xs.drop i) l u) := by
  intro d
  induction d with
  | zero =>
    intro i k l u hi hk hv hu
    obtain ⟨k, rfl⟩ : ∃ m, k = m + 1 := ⟨k - 1, by omega⟩
    have hlen := hv.len
    simp only [spec_BitPut.l0]
    rw [if_neg (by omega), if_neg (by omega), List.drop_eq_nil_of_le (by omega)]
    unfold res
    rw [if_pos ⟨(fun _ h => by cases h), by simp only [tb]; omega⟩]
    rfl
  | succ d ih =>
    intro i k l u hi hk hv hu
    obtain ⟨k, rfl⟩ : ∃ m, k = m + 1 + 1 := ⟨k - 2, by omega⟩
    have hlen := hv.len
    have hil : i < xs.length := by omega
    simp only [spec_BitPut.l0]
    rw [if_pos (by omega), if_pos (by omega), rdT hil, specBitOk_ok, Option.bind_some, drop_cons hil]
    by_cases hp : BitP xs[i].f0 xs[i].f1
    · obtain ⟨b1, b2, n0, n1⟩ := bitP_small hp
      rw [decide_eq_true hp, if_pos rfl, decide_eq_false (by omega)]
      simp only [spec_BitPut.j1]
      rw [if_neg (by decide)]
      obtain ⟨b, hb⟩ := Int.eq_ofNat_of_zero_le (show 0 ≤ xs[i].f1 by omega)
      have e := specPut_l xs i hil hxl hv b hb n0 n1 (by omega) (by omega) b 0 k (by omega) (by omega)
      rw [show putN l u xs[i].f0 0 = l from rfl, Nat.add_zero, show ((0 : Nat) : Int) = 0 from rfl] at e
      rw [e]
      have hv2 := inv_putN hv xs[i].f0 b
      by_cases ho : (u : Int) + xs[i].f1 ≤ 3200
      · rw [ih (i + 1) _ _ _ (by omega) (by omega) hv2 (by omega)]
        unfold res
        by_cases hg : PutOk (xs.drop (i + 1)) (u + b)
        · rw [if_pos hg, if_pos (good_cons.2 ⟨⟨hp, ho⟩, by rw [hb]; exact hg⟩)]
          simp only [putL]
          rw [hb]; rfl
        · rw [if_neg hg, if_neg (fun h => hg (by have := (good_cons.1 h).2; rw [hb] at this; exact this))]
      · have hl2 := hv2.len
        rw [specAll_over xs (i + 1) _ _ (by omega) _ (by omega)]
        unfold res
        rw [if_neg (fun h => ho (good_cons.1 h).1.2)]
    · rw [decide_eq_false hp, if_neg (by decide)]
      simp only [spec_BitPut.j1]
      rw [if_pos trivial]
      unfold res
      rw [if_neg (fun h => hp (good_cons.1 h).1.1)]
theorem specPut_ok (xs : List S36) (hxl : xs.length ≤ 1099511627776) (k : Nat) (hk : 16 * xs.length + 16 < k) : spec_BitPut.f k xs = some (res xs [] 0) := specAll_l xs hxl xs.length 0 k [] 0 (by omega) hk inv_nil (by omega)
theorem inv_res (xs : List S36) (_ : PutOk xs 0) : Inv (putL xs [] 0) (tb xs) := by have := inv_putL xs inv_nil; rwa [Nat.zero_add] at this
theorem res_bytes (xs : List S36) : Bytes (res xs [] 0) := by
  unfold res
  split
  · exact (inv_putL xs inv_nil).byt
  · exact bytes_nil
theorem res_len (xs : List S36) : (res xs [] 0).length ≤ 400 := by
  unfold res
  split
  · rename_i h
    have h1 := (inv_res xs h).len
    have h2 := h.2
    omega
  · simp
end Go.Proofs.Ytfnkaccncmjnaaa.Pl
