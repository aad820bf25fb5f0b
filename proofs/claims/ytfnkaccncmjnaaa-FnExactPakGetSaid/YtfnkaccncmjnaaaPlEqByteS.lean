/- What the laws' own helpers on bytes come to: a copy of bytes is them; bytes are equal just if they are; marks that were laid are found. No condition but that lists are no longer than memory holds. -/
import Derived.Test.YtfnkaccncmjnaaaPl
import Derived.Test.YtfnkaccncmjnaaaX0
import Derived.Test.YtfnkaccncmjnaaaX11
namespace Go.Proofs.Ytfnkaccncmjnaaa.Pl
open Go Go.RowKit Go.Proofs.Ytfnkaccncmjnaaa.X Go.Proofs.YtfnkaccncmjnaaaW.PrintWords Go.Proofs.YtfnkaccncmjnaaaW.PrintLast Go.Proofs.YtfnkaccncmjnaaaW.PrintMore

theorem eqByteS_l (l m : List Int) (hm : l.length = m.length) (hl : l.length ≤ 140737488351232) : ∀ (d k i : Nat), i + d = l.length → d < k → l.take i = m.take i →
    laws_eqByteS.l0 k l m (i : Int) = some (decide (l = m)) := by
  intro d
  induction d with
  | zero =>
    intro k i hd hk he
    obtain ⟨k, rfl⟩ : ∃ q, k = q + 1 := ⟨k - 1, by omega⟩
    obtain rfl : i = l.length := by omega
    simp only [laws_eqByteS.l0]
    rw [if_neg (by omega)]
    rw [List.take_of_length_le (by omega), List.take_of_length_le (by omega)] at he
    simp [he]
  | succ d ih =>
    intro k i hd hk he
    obtain ⟨k, rfl⟩ : ∃ q, k = q + 1 := ⟨k - 1, by omega⟩
    simp only [laws_eqByteS.l0]
    rw [if_pos (by omega), if_pos (by omega), if_pos (by omega), w64 (by omega) (by omega), rd_lt (show i < l.length by omega), rd_lt (show i < m.length by omega)]
    by_cases e : l[i]'(by omega) = m[i]'(by omega)
    · rw [if_pos e]
      exact ih k (i + 1) (by omega) (by omega) (by rw [take_snoc l i (by omega), take_snoc m i (by omega), he, e])
    · rw [if_neg e]
      have : l ≠ m := by rintro rfl; exact e rfl
      simp [this]
theorem eqByteS_ok (l m : List Int) (hl : l.length ≤ 140737488351232) (k : Nat) (hk : l.length < k) : laws_eqByteS.f k l m = some (decide (l = m)) := by
  unfold laws_eqByteS.f
  by_cases e : (l.length : Int) = (m.length : Int)
  · rw [if_pos e]; exact eqByteS_l l m (by omega) hl l.length k 0 (by omega) hk rfl
  · rw [if_neg e]
    have : l ≠ m := by rintro rfl; exact e rfl
    simp [this]
theorem eqByteS_self (l : List Int) (hl : l.length ≤ 140737488351232) (k : Nat) (hk : l.length < k) : laws_eqByteS.f k l l = some true := by
  rw [eqByteS_ok l l hl k hk]; simp
end Go.Proofs.Ytfnkaccncmjnaaa.Pl
