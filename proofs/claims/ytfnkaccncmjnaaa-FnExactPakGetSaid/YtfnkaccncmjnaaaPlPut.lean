/- Numbers laid bit by bit into bytes: what lies where. No program in sight; no condition but that bits are 0 or 1. -/
import Derived.Test.YtfnkaccncmjnaaaPlBits
namespace Go.Proofs.Ytfnkaccncmjnaaa.Pl
open Go Go.RowKit Go.Proofs.YtfnkaccncmjnaaaW.PrintWords Go.Proofs.YtfnkaccncmjnaaaW.PrintLast Go.Proofs.YtfnkaccncmjnaaaW.PrintMore

/-- Room for bit u. -/
def gro (l : List Int) (u : Nat) : List Int := if u % 8 = 0 then l ++ [0] else l
/-- Bit u laid. -/
def stp (l : List Int) (u : Nat) (c : Int) : List Int := (gro l u).set (u / 8) ((gro l u).getD (u / 8) 0 + c * 2 ^ (u % 8))
/-- Bytes that hold u bits. -/
structure Inv (l : List Int) (u : Nat) : Prop where
  len : l.length = (u + 7) / 8
  byt : Bytes l
  low : u % 8 ≠ 0 → l.getD (u / 8) 0 < 2 ^ (u % 8)
theorem inv_nil : Inv [] 0 := ⟨rfl, bytes_nil, fun h => absurd rfl h⟩
theorem gro_facts {l : List Int} {u : Nat} (h : Inv l u) : (gro l u).length = u / 8 + 1 ∧ Bytes (gro l u) ∧ 0 ≤ (gro l u).getD (u / 8) 0 ∧ (gro l u).getD (u / 8) 0 < 2 ^ (u % 8) := by
  have hl := h.len
  unfold gro
  by_cases e : u % 8 = 0
  · rw [if_pos e]
    refine ⟨by rw [List.length_append, List.length_singleton]; omega, bytes_snoc h.byt ⟨by omega, by omega⟩, ?_⟩
    have : (l ++ [0]).getD (u / 8) 0 = (0 : Int) := by
      rw [List.getD_eq_getElem?_getD, List.getElem?_append_right (by omega), show u / 8 - l.length = 0 by omega]
      rfl
    rw [this, e]
    exact ⟨by omega, by decide⟩
  · rw [if_neg e]
    exact ⟨by omega, h.byt, (getD_byte h.byt _).1, h.low e⟩
theorem pow7 {m : Nat} (h : m < 8) : (1 : Int) ≤ 2 ^ m ∧ (2 : Int) ^ m ≤ 128 := by
  have := pow_le' 7 (show m ≤ 7 by omega)
  exact ⟨pow_pos' m, by simpa using this⟩
theorem getD_set_self {l : List Int} {i : Nat} (h : i < l.length) (x : Int) : (l.set i x).getD i 0 = x := by
  rw [List.getD_eq_getElem?_getD, List.getElem?_set_self h]; rfl
theorem getD_set_ne {l : List Int} {i j : Nat} (h : i ≠ j) (x : Int) : (l.set i x).getD j 0 = l.getD j 0 := by
  rw [List.getD_eq_getElem?_getD, List.getD_eq_getElem?_getD, List.getElem?_set_ne h]
theorem inv_stp {l : List Int} {u : Nat} (h : Inv l u) {c : Int} (hc : c = 0 ∨ c = 1) : Inv (stp l u c) (u + 1) := by
  obtain ⟨g1, g2, g3, g4⟩ := gro_facts h
  have hp := pow7 (show u % 8 < 8 by omega)
  unfold stp
  generalize gro l u = g at g1 g2 g3 g4
  generalize hx : g.getD (u / 8) 0 = x at g3 g4
  have hs : x + c * 2 ^ (u % 8) < 2 * 2 ^ (u % 8) ∧ 0 ≤ x + c * 2 ^ (u % 8) := by rcases hc with rfl | rfl <;> omega
  refine ⟨by rw [List.length_set]; omega, bytes_set g2 _ ⟨by omega, by omega⟩, fun e => ?_⟩
  rw [show (u + 1) / 8 = u / 8 by omega, getD_set_self (by omega), show (u + 1) % 8 = u % 8 + 1 by omega, pow_succ']
  omega
theorem bit_low (x c : Int) (m t : Nat) (hm : m < 8) (ht : t < m) : (x + c * 2 ^ m) / 2 ^ t % 2 = x / 2 ^ t % 2 := by
  obtain ⟨d, rfl⟩ : ∃ d, m = t + 1 + d := ⟨m - t - 1, by omega⟩
  have e : c * 2 ^ (t + 1 + d) = (2 * (c * 2 ^ d)) * 2 ^ t := by
    rw [Int.pow_add, Int.pow_add, Int.pow_one]
    rw [Int.mul_comm (2 ^ t) 2, Int.mul_assoc, Int.mul_comm (2 ^ t), ← Int.mul_assoc, ← Int.mul_assoc, Int.mul_comm c 2, Int.mul_assoc 2 c]
  rw [e, Int.add_mul_ediv_right _ _ (by have := pow_pos' t; omega)]
  omega
theorem bit_high (x c : Int) (m : Nat) (hx0 : 0 ≤ x) (hx1 : x < 2 ^ m) (hc : c = 0 ∨ c = 1) : (x + c * 2 ^ m) / 2 ^ m % 2 = c := by
  rw [Int.add_mul_ediv_right _ _ (by have := pow_pos' m; omega), Int.ediv_eq_zero_of_lt hx0 hx1]
  rcases hc with rfl | rfl <;> rfl
theorem bit_stp_lt {l : List Int} {u : Nat} (h : Inv l u) {c : Int} {j : Nat} (hj : j < u) : bitAt (stp l u c) j = bitAt l j := by
  obtain ⟨g1, g2, g3, g4⟩ := gro_facts h
  have hl := h.len
  unfold bitAt stp
  by_cases e : u / 8 = j / 8
  · rw [← e, getD_set_self (by omega), bit_low _ _ _ _ (by omega) (by omega)]
    unfold gro
    rw [if_neg (by omega)]
  · rw [getD_set_ne e]
    congr 2
    unfold gro
    by_cases e8 : u % 8 = 0
    · rw [if_pos e8, List.getD_eq_getElem?_getD, List.getElem?_append_left (by omega), ← List.getD_eq_getElem?_getD]
    · rw [if_neg e8]
theorem bit_stp_eq {l : List Int} {u : Nat} (h : Inv l u) {c : Int} (hc : c = 0 ∨ c = 1) : bitAt (stp l u c) u = c := by
  obtain ⟨g1, g2, g3, g4⟩ := gro_facts h
  unfold bitAt stp
  rw [getD_set_self (by omega)]
  exact bit_high _ _ _ g3 g4 hc
/-- i bits of n laid from bit u on. -/
def putN (l : List Int) (u : Nat) (n : Int) : Nat → List Int
  | 0 => l
  | i + 1 => stp (putN l u n i) (u + i) (n / 2 ^ i % 2)
theorem mod2 (x : Int) : x % 2 = 0 ∨ x % 2 = 1 := by omega
theorem inv_putN {l : List Int} {u : Nat} (h : Inv l u) (n : Int) : ∀ i, Inv (putN l u n i) (u + i)
  | 0 => h
  | i + 1 => inv_stp (inv_putN h n i) (mod2 _)
theorem bit_putN_lt {l : List Int} {u : Nat} (h : Inv l u) (n : Int) {j : Nat} (hj : j < u) : ∀ i, bitAt (putN l u n i) j = bitAt l j
  | 0 => rfl
  | i + 1 => (bit_stp_lt (inv_putN h n i) (by omega)).trans (bit_putN_lt h n hj i)
theorem bit_putN {l : List Int} {u : Nat} (h : Inv l u) (n : Int) (t : Nat) : ∀ i, t < i → bitAt (putN l u n i) (u + t) = n / 2 ^ t % 2
  | 0, ht => absurd ht (by omega)
  | i + 1, ht => by
    simp only [putN]
    by_cases e : t = i
    · subst e; exact bit_stp_eq (inv_putN h n t) (mod2 _)
    · rw [bit_stp_lt (inv_putN h n i) (by omega)]
      exact bit_putN h n t i (by omega)
theorem emod_pow (n : Int) (b : Nat) : n % 2 ^ (b + 1) = n % 2 ^ b + n / 2 ^ b % 2 * 2 ^ b := by
  have hp := pow_pos' b
  generalize hP : (2 : Int) ^ b = p at hp
  rw [pow_succ', hP]
  have h1 := Int.mul_ediv_add_emod n p
  have h2 := Int.emod_nonneg n (show p ≠ 0 by omega)
  have h3 := Int.emod_lt_of_pos n (show 0 < p by omega)
  generalize n / p = q at h1
  generalize n % p = r at h1 h2 h3
  have e : n = (r + q % 2 * p) + (2 * p) * (q / 2) := by
    have hq := Int.mul_ediv_add_emod q 2
    generalize q / 2 = y at hq
    generalize q % 2 = z at hq
    subst hq
    rw [← h1, Int.mul_add, Int.mul_assoc 2 p y, Int.mul_left_comm p 2 y, Int.mul_comm z p]
    omega
  rw [e, Int.add_mul_emod_self_left]
  refine Int.emod_eq_of_lt ?_ ?_
  · rcases mod2 q with h | h <;> rw [h] <;> omega
  · rcases mod2 q with h | h <;> rw [h] <;> omega
theorem bitSum_of {L : List Int} {u : Nat} {n : Int} : ∀ b : Nat, (∀ t, t < b → bitAt L (u + t) = n / 2 ^ t % 2) → bitSum L u b = n % 2 ^ b
  | 0, _ => by simp [bitSum, Int.emod_one]
  | b + 1, h => by
    simp only [bitSum]
    rw [bitSum_of b (fun t ht => h t (by omega)), h b (by omega), emod_pow]
theorem bitSum_congr {L M : List Int} {u : Nat} : ∀ b : Nat, (∀ t, t < b → bitAt L (u + t) = bitAt M (u + t)) → bitSum L u b = bitSum M u b
  | 0, _ => rfl
  | b + 1, h => by
    simp only [bitSum]
    rw [bitSum_congr b (fun t ht => h t (by omega)), h b (by omega)]
/-- What lies ahead on whole bytes stays. -/
theorem stp_ahead (A l : List Int) (u : Nat) (c : Int) : stp (A ++ l) (8 * A.length + u) c = A ++ stp l u c := by
  unfold stp gro
  rw [show (8 * A.length + u) % 8 = u % 8 by omega, show (8 * A.length + u) / 8 = A.length + u / 8 by omega]
  by_cases e : u % 8 = 0
  · rw [if_pos e, if_pos e, List.append_assoc]
    rw [List.set_append_right _ _ (by omega), show A.length + u / 8 - A.length = u / 8 by omega]
    congr 2
    congr 1
    rw [List.getD_eq_getElem?_getD, List.getElem?_append_right (by omega), show A.length + u / 8 - A.length = u / 8 by omega, ← List.getD_eq_getElem?_getD]
  · rw [if_neg e, if_neg e]
    rw [List.set_append_right _ _ (by omega), show A.length + u / 8 - A.length = u / 8 by omega]
    congr 2
    congr 1
    rw [List.getD_eq_getElem?_getD, List.getElem?_append_right (by omega), show A.length + u / 8 - A.length = u / 8 by omega, ← List.getD_eq_getElem?_getD]
theorem putN_ahead (A l : List Int) (u : Nat) (n : Int) : ∀ i, putN (A ++ l) (8 * A.length + u) n i = A ++ putN l u n i
  | 0 => rfl
  | i + 1 => by
    simp only [putN]
    rw [putN_ahead A l u n i, Nat.add_assoc, stp_ahead]
theorem putN_byte (n : Int) (h : Byte n) : putN [] 0 n 8 = [n] := by
  have hi := inv_putN inv_nil n 8
  have hlen := hi.len
  obtain ⟨x, hx⟩ : ∃ x, putN [] 0 n 8 = [x] := by
    match hq : putN [] 0 n 8 with
    | [] => rw [hq] at hlen; simp at hlen
    | [x] => exact ⟨x, rfl⟩
    | x :: y :: l => rw [hq] at hlen; simp at hlen
  have hb : ∀ t, t < 8 → x / 2 ^ t % 2 = n / 2 ^ t % 2 := by
    intro t ht
    have := bit_putN inv_nil n t 8 ht
    rw [hx] at this
    unfold bitAt at this
    rw [show (0 + t) / 8 = 0 by omega, show (0 + t) % 8 = t by omega] at this
    simpa using this
  have hxb : Byte x := by have := hi.byt; rw [hx] at this; exact this x (by simp)
  have e0 := hb 0 (by omega); have e1 := hb 1 (by omega); have e2 := hb 2 (by omega); have e3 := hb 3 (by omega)
  have e4 := hb 4 (by omega); have e5 := hb 5 (by omega); have e6 := hb 6 (by omega); have e7 := hb 7 (by omega)
  obtain ⟨x0, x1⟩ := hxb
  obtain ⟨n0, n1⟩ := h
  rw [hx]
  congr 1
  simp only [Int.reducePow] at e0 e1 e2 e3 e4 e5 e6 e7
  omega
end Go.Proofs.Ytfnkaccncmjnaaa.Pl
