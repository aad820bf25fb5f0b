/- Marks that the laws lay into bytes are found again: marking writes the numbers from one on, and holding them against the marks counts as far. The list is no longer than memory holds. -/
import Derived.Test.YtfnkaccncmjnaaaPl
import Derived.Test.YtfnkaccncmjnaaaX0
import Derived.Test.YtfnkaccncmjnaaaX15
import Derived.Test.YtfnkaccncmjnaaaX16
namespace Go.Proofs.Ytfnkaccncmjnaaa.Pl
open Go Go.RowKit Go.Proofs.Ytfnkaccncmjnaaa.X Go.Proofs.YtfnkaccncmjnaaaW.PrintWords Go.Proofs.YtfnkaccncmjnaaaW.PrintLast Go.Proofs.YtfnkaccncmjnaaaW.PrintMore
/-- The marks of so many bytes. -/
def marks (n : Nat) : List Int := (List.range n).map fun (i : Nat) => (1 + (i : Int)) % 256
theorem marks_len (n : Nat) : (marks n).length = n := by simp [marks]
theorem marks_get (n i : Nat) (h : i < (marks n).length) : (marks n)[i] = (1 + (i : Int)) % 256 := by simp [marks]
/-- Written place by place over what was there. -/
theorem set_over {α : Type} (l m : List α) (i : Nat) (hl : m.length = l.length) (h : i < m.length) : (m.take i ++ l.drop i).set i m[i] = m.take (i + 1) ++ l.drop (i + 1) := by
  have hi : (m.take i).length = i := by rw [List.length_take]; omega
  rw [List.set_append_right _ _ (by omega), hi, Nat.sub_self, List.drop_eq_getElem_cons (show i < l.length by omega), List.set_cons_zero, take_snoc m i h, List.append_assoc]; rfl
theorem markByteS_l (l : List Int) (hl : l.length ≤ 140737488351232) : ∀ (d k i : Nat), i + d = l.length → d < k →
    laws_markByteS.l0 k ((marks l.length).take i ++ l.drop i) (1 + (i : Int)) (i : Int) = some (1 + (l.length : Int), marks l.length) := by
  have hm := marks_len l.length
  intro d
  induction d with
  | zero =>
    intro k i hd hk
    obtain ⟨k, rfl⟩ : ∃ m, k = m + 1 := ⟨k - 1, by omega⟩
    obtain rfl : i = l.length := by omega
    simp only [laws_markByteS.l0]
    rw [if_neg (by rw [List.length_append, List.length_take, List.length_drop]; omega), List.take_of_length_le (by omega), List.drop_of_length_le (by omega), List.append_nil]
  | succ d ih =>
    intro k i hd hk
    obtain ⟨k, rfl⟩ : ∃ m, k = m + 1 := ⟨k - 1, by omega⟩
    simp only [laws_markByteS.l0]
    have hlen : ((marks l.length).take i ++ l.drop i).length = l.length := by rw [List.length_append, List.length_take, List.length_drop]; omega
    rw [if_pos (by omega), if_pos (by omega), w64 (x := 1 + (i : Int) + 1) (by omega) (by omega), w64 (x := (i : Int) + 1) (by omega) (by omega), Int.toNat_natCast, ← marks_get l.length i (by omega), set_over l _ i hm (by omega)]
    have e := ih k (i + 1) (by omega) (by omega)
    rw [show (1 : Int) + ((i + 1 : Nat) : Int) = 1 + (i : Int) + 1 by omega] at e
    exact e
theorem markByteS_ok (l : List Int) (hl : l.length ≤ 140737488351232) (k : Nat) (hk : l.length < k) : laws_markByteS.f k l 1 = some (1 + (l.length : Int), marks l.length) := markByteS_l l hl l.length k 0 (by omega) hk
theorem heldByteS_l (n : Nat) (hn : n ≤ 140737488351232) : ∀ (d k i : Nat), i + d = n → d < k → laws_heldByteS.l0 k (marks n) (1 + (i : Int)) (i : Int) = some (1 + (n : Int)) := by
  have hm := marks_len n
  intro d
  induction d with
  | zero =>
    intro k i hd hk
    obtain ⟨k, rfl⟩ : ∃ m, k = m + 1 := ⟨k - 1, by omega⟩
    obtain rfl : i = n := by omega
    simp only [laws_heldByteS.l0]
    rw [if_neg (by omega)]
  | succ d ih =>
    intro k i hd hk
    obtain ⟨k, rfl⟩ : ∃ m, k = m + 1 := ⟨k - 1, by omega⟩
    simp only [laws_heldByteS.l0]
    rw [if_pos (by omega), if_pos (by omega), rd_lt (show i < (marks n).length by omega), marks_get n i (by omega), if_pos rfl, w64 (x := 1 + (i : Int) + 1) (by omega) (by omega), w64 (x := (i : Int) + 1) (by omega) (by omega)]
    have e := ih k (i + 1) (by omega) (by omega)
    rw [show (1 : Int) + ((i + 1 : Nat) : Int) = 1 + (i : Int) + 1 by omega] at e
    exact e
theorem heldByteS_ok (n : Nat) (hn : n ≤ 140737488351232) (k : Nat) (hk : n < k) : laws_heldByteS.f k (marks n) 1 = some (1 + (n : Int)) := heldByteS_l n hn n k 0 (by omega) hk
end Go.Proofs.Ytfnkaccncmjnaaa.Pl
