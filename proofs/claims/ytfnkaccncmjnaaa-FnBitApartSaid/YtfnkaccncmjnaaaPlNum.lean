/- What is drawn as a number of so many bits. The code is bytes, no more than 2000. -/
import Derived.Test.YtfnkaccncmjnaaaPlPick
import Derived.Test.YtfnkaccncmjnaaaPlBitOk
import Derived.Test.YtfnkaccncmjnaaaX0
import Derived.Test.YtfnkaccncmjnaaaX21
namespace Go.Proofs.Ytfnkaccncmjnaaa.Pl
open Go Go.RowKit Go.Proofs.Ytfnkaccncmjnaaa.X Go.Proofs.YtfnkaccncmjnaaaW.PrintWords Go.Proofs.YtfnkaccncmjnaaaW.PrintLast Go.Proofs.YtfnkaccncmjnaaaW.PrintMore
theorem rd_all {P : Int → Prop} {l : List Int} (h : ∀ x ∈ l, P x) {i : Int} (h0 : 0 ≤ i) (h1 : i < (l.length : Int)) : P (rd l i) := by
  obtain ⟨m, rfl⟩ := Int.eq_ofNat_of_zero_le h0
  rw [rd_lt (show m < l.length by omega)]
  exact h _ (List.getElem_mem _)
theorem num_ok (s : List Int) (hs : Bytes s) (hl : s.length ≤ 2000) (p n : Int) (h0 : 0 ≤ p) (h1 : p ≤ 900000) (hn : n ≤ 1000000) :
    ∃ v b q, (∀ k, 1 ≤ k → spec_l20Num.f k s p n = some (v, b, q)) ∧ p ≤ q ∧ q ≤ p + 6 ∧ -1 ≤ v ∧ v ≤ 9223372036854775807 ∧ -1 ≤ b ∧ b ≤ 9223372036854775807 ∧ (n ≤ 0 → BitP v b) := by
  obtain ⟨b, hb, hb0, hb1, _⟩ := pick_ok s hs hl p 12 h0 (by omega)
  obtain ⟨x, hx, hx0, hx1, _⟩ := pick_ok s hs hl (p + 1) 256 (by omega) (by omega)
  obtain ⟨y, hy, hy0, hy1, _⟩ := pick_ok s hs hl (p + 1 + 1) 256 (by omega) (by omega)
  obtain ⟨o, q, ho, hq0, hq1, hof⟩ := odd_ok s hs hl (p + 1 + 1 + 1) n (by omega) (by omega) hn
  obtain ⟨t, ht, ht0, ht1, _⟩ := pick_ok s hs hl q 2 (by omega) (by omega)
  obtain ⟨u, hu, hu0, hu1, _⟩ := pick_ok s hs hl (q + 1) 4 (by omega) (by omega)
  obtain ⟨v, hv, hv0, hv1, _⟩ := pick_ok s hs hl (q + 1) 2 (by omega) (by omega)
  have hb1 := hb1 (by omega)
  have hx1 := hx1 (by omega)
  have hy1 := hy1 (by omega)
  have ht1 := ht1 (by omega)
  have hu1 := hu1 (by omega)
  have hv1 := hv1 (by omega)
  have hpow := pow_le (show 0 ≤ 1 + b by omega) (by omega)
  have hshl := shl_one (show 0 ≤ 1 + b by omega) (by omega)
  have hwb : wrap64 (1 + b) = 1 + b := w64 (by omega) (by omega)
  have hwx : wrap64 (wrap64 (x * 256) + y) = x * 256 + y := by rw [w64 (x := x * 256) (by omega) (by omega), w64 (by omega) (by omega)]
  have ht' : 0 ≤ Int.tmod (x * 256 + y) (2 ^ (1 + b).toNat) := Int.tmod_nonneg _ (by omega)
  have ht'' : Int.tmod (x * 256 + y) (2 ^ (1 + b).toNat) < 2 ^ (1 + b).toNat := Int.tmod_lt_of_pos _ (by omega)
  have hf (k : Nat) (hk : 1 ≤ k) : spec_l20Num.f k s p n = (if o = true then (if t = 0 then some (Int.tmod (x * 256 + y) (2 ^ (1 + b).toNat), rd [0, -1, 13, 9223372036854775807] u, q + 1 + 1) else some (rd [-1, 2 ^ (1 + b).toNat] v, 1 + b, q + 1 + 1)) else some (Int.tmod (x * 256 + y) (2 ^ (1 + b).toNat), 1 + b, q)) := by
    unfold spec_l20Num.f
    rw [hb k hk]
    simp only [Option.bind_some]
    rw [hx k hk]
    simp only [Option.bind_some]
    rw [hy k hk]
    simp only [Option.bind_some]
    rw [hwb, hwx, if_pos (by omega), hshl, if_neg (by omega), ho k hk]
    simp only [Option.bind_some]
    cases o with
    | false => rfl
    | true =>
      simp only [if_true]
      rw [ht k hk]
      simp only [Option.bind_some]
      by_cases e : t = 0
      · rw [if_pos e, if_pos e, hu k hk]
        simp only [Option.bind_some]
        rw [if_pos hu0, if_pos (by simpa using hu1)]
      · rw [if_neg e, if_neg e, hv k hk]
        simp only [Option.bind_some]
        rw [if_pos hv0, if_pos (by simpa using hv1)]
  cases o with
  | false =>
    exact ⟨_, _, _, fun k hk => (hf k hk).trans rfl, by omega, by omega, by omega, by omega, by omega, by omega, fun _ => ⟨by omega, by omega, ht', ht''⟩⟩
  | true =>
    have hno : ¬ n ≤ 0 := fun h => by have := hof h; cases this
    by_cases e : t = 0
    · have hr : (-1 : Int) ≤ rd [0, -1, 13, 9223372036854775807] u ∧ rd [0, -1, 13, 9223372036854775807] u ≤ 9223372036854775807 := rd_all (P := fun z => (-1 : Int) ≤ z ∧ z ≤ 9223372036854775807) (by simp) hu0 (by simpa using hu1)
      exact ⟨_, _, _, fun k hk => (hf k hk).trans (by rw [if_pos rfl, if_pos e]), by omega, by omega, by omega, by omega, hr.1, hr.2, fun h => absurd h hno⟩
    · have hr : (-1 : Int) ≤ rd [-1, 2 ^ (1 + b).toNat] v ∧ rd [-1, 2 ^ (1 + b).toNat] v ≤ 9223372036854775807 := rd_all (P := fun z => (-1 : Int) ≤ z ∧ z ≤ 9223372036854775807) (by
        intro z hz
        rcases List.mem_cons.1 hz with rfl | hz
        · exact ⟨by omega, by omega⟩
        · rcases List.mem_cons.1 hz with rfl | hz
          · exact ⟨by omega, by omega⟩
          · cases hz) hv0 (by simpa using hv1)
      exact ⟨_, _, _, fun k hk => (hf k hk).trans (by rw [if_pos rfl, if_neg e]), by omega, by omega, hr.1, hr.2, by omega, by omega, fun h => absurd h hno⟩
end Go.Proofs.Ytfnkaccncmjnaaa.Pl
