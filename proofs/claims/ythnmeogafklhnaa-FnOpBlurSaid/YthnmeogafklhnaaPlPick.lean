/- What the reader of draws picks: a number below what was asked for, one place on. The code is bytes, no more than 2000, and no more than a million picks came before. -/
import Derived.Test.YthnmeogafklhnaaPl
import Derived.Test.YthnmeogafklhnaaX0
import Derived.Test.YthnmeogafklhnaaX3
import Derived.Test.YthnmeogafklhnaaX4
import Derived.Test.YthnmeogafklhnaaX6
namespace Go.Proofs.Ythnmeogafklhnaa.Pl
open Go Go.RowKit Go.Proofs.Ythnmeogafklhnaa.X Go.Proofs.YthnmeogafklhnaaW.PrintWords Go.Proofs.YthnmeogafklhnaaW.PrintLast Go.Proofs.YthnmeogafklhnaaW.PrintMore

theorem xor_nonneg (a b : Int) (ha : 0 ≤ a) (hb : 0 ≤ b) (ha1 : a < 4611686018427387904) (hb1 : b < 4611686018427387904) : 0 ≤ Go.bits .xor .i64 a b := by
  obtain ⟨m, rfl⟩ := Int.eq_ofNat_of_zero_le ha
  obtain ⟨n, rfl⟩ := Int.eq_ofNat_of_zero_le hb
  have hm : m < 2 ^ 62 := by omega
  have hn : n < 2 ^ 62 := by omega
  have hx : m ^^^ n < 2 ^ 62 := Nat.xor_lt_two_pow hm hn
  have h1 : m % 2 ^ 64 = m := Nat.mod_eq_of_lt (by omega)
  have h2 : n % 2 ^ 64 = n := Nat.mod_eq_of_lt (by omega)
  have e : Go.bits .xor .i64 (m : Int) (n : Int) = IntKind.i64.wrap ((m ^^^ n : Nat) : Int) := by
    simp only [Go.bits, BitVec.ofInt_natCast, BitVec.toNat_xor, BitVec.toNat_ofNat]
    rw [show IntKind.bits .i64 = 64 from rfl, h1, h2]
  rw [e]
  have : IntKind.i64.wrap ((m ^^^ n : Nat) : Int) = wrap64 ((m ^^^ n : Nat) : Int) := i64_w _
  rw [this, w64 (by omega) (by omega)]
  omega
theorem tmod_in (x n : Int) (hx : 0 ≤ x) (hn : 1 ≤ n) : 0 ≤ Int.tmod x n ∧ Int.tmod x n < n := ⟨Int.tmod_nonneg _ hx, Int.tmod_lt_of_pos _ (by omega)⟩
theorem pick_ok (s : List Int) (hs : Bytes s) (hl : s.length ≤ 2000) (p n : Int) (h0 : 0 ≤ p) (h1 : p ≤ 1000000) :
    ∃ r, (∀ k, 1 ≤ k → spec_l20Rd_pick.f k s p n = some (r, p + 1)) ∧ 0 ≤ r ∧ (1 ≤ n → r < n) ∧ (n < 1 → r = 0) := by
  have hp1 : wrap64 (p + 1) = p + 1 := w64 (by omega) (by omega)
  have hp2 : wrap64 (p + 1 - 1) = p := by rw [w64 (by omega) (by omega)]; omega
  by_cases hn : n < 1
  · refine ⟨0, fun k hk => ?_, by omega, by omega, fun _ => rfl⟩
    obtain ⟨k, rfl⟩ : ∃ m, k = m + 1 := ⟨k - 1, by omega⟩
    unfold spec_l20Rd_pick.f
    rw [if_pos hn, hp1]
    simp only [spec_l20Rd_pick.j0, if_true]
  by_cases hz : s.length = 0
  · refine ⟨0, fun k hk => ?_, by omega, by omega, fun h => by omega⟩
    obtain ⟨k, rfl⟩ : ∃ m, k = m + 1 := ⟨k - 1, by omega⟩
    unfold spec_l20Rd_pick.f
    rw [if_neg hn, hp1, hz]
    simp only [spec_l20Rd_pick.j0]
    rfl
  have hb : ((s.length : Int) == 0) = false := by rw [beq_eq_false_iff_ne]; omega
  by_cases hlt : p < (s.length : Int)
  · obtain ⟨hr0, hr1⟩ := rd_byte hs p
    obtain ⟨ht0, ht1⟩ := tmod_in (rd s p) n hr0 (by omega)
    refine ⟨Int.tmod (rd s p) n, fun k hk => ?_, ht0, fun _ => ht1, fun h => by omega⟩
    obtain ⟨k, rfl⟩ : ∃ m, k = m + 1 := ⟨k - 1, by omega⟩
    unfold spec_l20Rd_pick.f
    rw [if_neg hn, hp1, hb]
    simp only [spec_l20Rd_pick.j0, hp2]
    rw [if_neg (by decide), if_pos hlt, if_pos h0, if_neg (by omega), w64 (by omega) (by omega)]
  · have hL : (1 : Int) ≤ (s.length : Int) := by omega
    obtain ⟨hk0, hk1⟩ := tmod_in p (s.length : Int) h0 hL
    have hw7 : wrap64 (p * 7) = p * 7 := w64 (by omega) (by omega)
    have hw3 : wrap64 (p * 7 + 3) = p * 7 + 3 := w64 (by omega) (by omega)
    obtain ⟨hj0, hj1⟩ := tmod_in (p * 7 + 3) (s.length : Int) (by omega) hL
    obtain ⟨hr0, hr1⟩ := rd_byte hs (Int.tmod p (s.length : Int))
    obtain ⟨hq0, hq1⟩ := rd_byte hs (Int.tmod (p * 7 + 3) (s.length : Int))
    have hd : Int.tdiv p (s.length : Int) = p / (s.length : Int) := Int.tdiv_eq_ediv_of_nonneg h0
    have hd0 : 0 ≤ p / (s.length : Int) := Int.ediv_nonneg h0 (by omega)
    have hd1 : p / (s.length : Int) ≤ p := Int.ediv_le_self _ h0
    generalize hA : rd s (Int.tmod p (s.length : Int)) = A at hr0 hr1
    generalize hB : rd s (Int.tmod (p * 7 + 3) (s.length : Int)) = B at hq0 hq1
    generalize hD : p / (s.length : Int) = D at hd hd0 hd1
    have hx0 : 0 ≤ A * 131 + B * 1117 + p * 29 + D * 53 := by omega
    have hx1 : A * 131 + B * 1117 + p * 29 + D * 53 ≤ 100000000 := by omega
    have hx64 : Int.tdiv (A * 131 + B * 1117 + p * 29 + D * 53) 64 = (A * 131 + B * 1117 + p * 29 + D * 53) / 64 := Int.tdiv_eq_ediv_of_nonneg hx0
    have hX := xor_nonneg (A * 131 + B * 1117 + p * 29 + D * 53) ((A * 131 + B * 1117 + p * 29 + D * 53) / 64) hx0 (by omega) (by omega) (by omega)
    obtain ⟨ht0, ht1⟩ := tmod_in (Go.bits .xor .i64 (A * 131 + B * 1117 + p * 29 + D * 53) ((A * 131 + B * 1117 + p * 29 + D * 53) / 64)) n hX (by omega)
    refine ⟨_, fun k hk => ?_, ht0, fun _ => ht1, fun h => by omega⟩
    obtain ⟨k, rfl⟩ : ∃ m, k = m + 1 := ⟨k - 1, by omega⟩
    unfold spec_l20Rd_pick.f
    rw [if_neg hn, hp1, hb]
    simp only [spec_l20Rd_pick.j0, hp2, hw7, hw3]
    rw [if_neg (by decide), if_neg hlt, if_neg (by omega), if_pos hk0, if_pos hk1, if_pos hj0, if_pos hj1, if_neg (by omega), hA, hB, hd]
    rw [w64 (x := A) (by omega) (by omega), w64 (x := B) (by omega) (by omega), w64 (x := D) (by omega) (by omega), w64 (x := A * 131) (by omega) (by omega), w64 (x := B * 1117) (by omega) (by omega), w64 (x := p * 29) (by omega) (by omega), w64 (x := D * 53) (by omega) (by omega), w64 (x := A * 131 + B * 1117) (by omega) (by omega), w64 (x := A * 131 + B * 1117 + p * 29) (by omega) (by omega), w64 (x := A * 131 + B * 1117 + p * 29 + D * 53) (by omega) (by omega), hx64, w64 (x := (A * 131 + B * 1117 + p * 29 + D * 53) / 64) (by omega) (by omega)]
theorem odd_ok (s : List Int) (hs : Bytes s) (hl : s.length ≤ 2000) (p n : Int) (h0 : 0 ≤ p) (h1 : p ≤ 1000000) (hn : n ≤ 1000000) :
    ∃ b q, (∀ k, 1 ≤ k → spec_l20Rd_odd.f k s p n = some (b, q)) ∧ p ≤ q ∧ q ≤ p + 1 ∧ (n ≤ 0 → b = false) := by
  unfold spec_l20Rd_odd.f
  by_cases h : n > 0
  · obtain ⟨r, hr, _, _, _⟩ := pick_ok s hs hl p n h0 h1
    exact ⟨_, _, fun k hk => by rw [if_pos h, hr k hk]; rfl, by omega, by omega, fun h' => by omega⟩
  · exact ⟨false, p, fun k _ => by rw [if_neg h], by omega, by omega, fun _ => rfl⟩
/-- What the reader opens: the code's first 2000 bytes. -/
theorem open_ok (l : List Int) (hb : Bytes l) : ∃ s, spec_l20Open.f l = some (s, 0) ∧ Bytes s ∧ s.length ≤ 2000 ∧ s.length ≤ l.length := by
  unfold spec_l20Open.f
  by_cases h : (l.length : Int) > 2000
  · refine ⟨l.take 2000, ?_, bytes_take hb _, by rw [List.length_take]; omega, by rw [List.length_take]; omega⟩
    rw [if_pos h, if_pos (by omega)]
  · exact ⟨l, by rw [if_neg h], hb, by omega, Nat.le_refl _⟩
end Go.Proofs.Ythnmeogafklhnaa.Pl
