/- What the laws' own helpers on bytes come to: a copy of bytes is them; bytes are equal just if they are; marks that were laid are found. No condition but that lists are no longer than memory holds. -/
import Derived.Test.YtfnkaccncmjnaaaPlEqByteS
import Derived.Test.YtfnkaccncmjnaaaX0
import Derived.Test.YtfnkaccncmjnaaaX38
namespace Go.Proofs.Ytfnkaccncmjnaaa.Pl
open Go Go.RowKit Go.Proofs.Ytfnkaccncmjnaaa.X Go.Proofs.YtfnkaccncmjnaaaW.PrintWords Go.Proofs.YtfnkaccncmjnaaaW.PrintLast Go.Proofs.YtfnkaccncmjnaaaW.PrintMore

theorem toByteS_l (l : List Int) (hl : l.length ≤ 140737488351232) : ∀ (d k i : Nat), i + d = l.length → d < k →
    laws_toByteS.l0 k l (l.take i ++ List.replicate (l.length - i) 0) (i : Int) = some l := by
  intro d
  induction d with
  | zero =>
    intro k i hd hk
    obtain ⟨k, rfl⟩ : ∃ m, k = m + 1 := ⟨k - 1, by omega⟩
    obtain rfl : i = l.length := by omega
    simp only [laws_toByteS.l0]
    rw [if_neg (by omega)]
    simp
  | succ d ih =>
    intro k i hd hk
    obtain ⟨k, rfl⟩ : ∃ m, k = m + 1 := ⟨k - 1, by omega⟩
    simp only [laws_toByteS.l0]
    rw [if_pos (by omega), if_pos (by omega), if_pos (by simp; omega), w64 (by omega) (by omega), rd_lt (show i < l.length by omega), Int.toNat_natCast, set_next l 0 i (by omega)]
    exact ih k (i + 1) (by omega) (by omega)
theorem toByteS_ok (l : List Int) (hl : l.length ≤ 140737488351232) (k : Nat) (hk : l.length < k) : laws_toByteS.f k l = some l := by
  unfold laws_toByteS.f
  rw [if_pos (by omega), if_pos (by omega), Int.toNat_natCast]
  simpa using toByteS_l l hl l.length k 0 (by omega) hk

end Go.Proofs.Ytfnkaccncmjnaaa.Pl
