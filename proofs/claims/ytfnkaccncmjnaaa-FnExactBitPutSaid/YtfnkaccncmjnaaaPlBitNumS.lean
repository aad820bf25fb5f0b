/- What the law's own helpers on lists of numbers of bits come to: a copy is the same numbers, a list is equal to itself, marks can be laid. The list is no longer than the law takes. -/
import Derived.Test.YtfnkaccncmjnaaaPl
import Derived.Test.YtfnkaccncmjnaaaX0
import Derived.Test.YtfnkaccncmjnaaaX5
import Derived.Test.YtfnkaccncmjnaaaX6
import Derived.Test.YtfnkaccncmjnaaaX12
import Derived.Test.YtfnkaccncmjnaaaX13
import Derived.Test.YtfnkaccncmjnaaaX14
namespace Go.Proofs.Ytfnkaccncmjnaaa.Pl
open Go Go.RowKit Go.Proofs.Ytfnkaccncmjnaaa.X Go.Proofs.YtfnkaccncmjnaaaW.PrintWords Go.Proofs.YtfnkaccncmjnaaaW.PrintLast Go.Proofs.YtfnkaccncmjnaaaW.PrintMore
def cpNum (x : S45) : S36 := ⟨x.f0, x.f1⟩
theorem rdT45 {xs : List S45} {i : Nat} (h : i < xs.length) : rd_T45 xs (i : Int) = xs[i] := by
  unfold rd_T45
  rw [Int.toNat_natCast, List.getD_eq_getElem?_getD, List.getElem?_eq_getElem h]; rfl
theorem toBitNumS_l (l : List S45) (hl : l.length ≤ 1048576) : ∀ (d k i : Nat), i + d = l.length → d < k →
    laws_toBitNumS.l0 k l ((l.map cpNum).take i ++ List.replicate (l.length - i) z36) (i : Int) = some (l.map cpNum) := by
  have hml : (l.map cpNum).length = l.length := List.length_map _
  intro d
  induction d with
  | zero =>
    intro k i hd hk
    obtain ⟨k, rfl⟩ : ∃ m, k = m + 1 := ⟨k - 1, by omega⟩
    obtain rfl : i = l.length := by omega
    simp only [laws_toBitNumS.l0]
    rw [if_neg (by omega), List.take_of_length_le (by omega), Nat.sub_self]; simp
  | succ d ih =>
    intro k i hd hk
    obtain ⟨k, rfl⟩ : ∃ m, k = m + 1 := ⟨k - 1, by omega⟩
    have hi : i < l.length := by omega
    simp only [laws_toBitNumS.l0]
    have hs := set_next (l.map cpNum) z36 i (by omega)
    simp only [List.length_map, List.getElem_map] at hs
    rw [if_pos (by omega), if_pos (by omega), rdT45 hi]
    unfold laws_toBitNum.f
    rw [Option.bind_some, if_pos (by rw [List.length_append, List.length_take, List.length_replicate]; omega), w64 (by omega) (by omega), Int.toNat_natCast]
    have e := ih k (i + 1) (by omega) (by omega)
    rw [← hs] at e
    exact e
theorem toBitNumS_ok (l : List S45) (hl : l.length ≤ 1048576) (k : Nat) (hk : l.length < k) : laws_toBitNumS.f k l = some (l.map cpNum) := by
  unfold laws_toBitNumS.f
  rw [if_pos (by omega), if_pos (by omega), Int.toNat_natCast]
  simpa using toBitNumS_l l hl l.length k 0 (by omega) hk
theorem rdT36 {xs : List S36} {i : Nat} (h : i < xs.length) : rd_T36 xs (i : Int) = xs[i] := by
  unfold rd_T36
  rw [Int.toNat_natCast, List.getD_eq_getElem?_getD, List.getElem?_eq_getElem h]; rfl
theorem eqBitNumS_l (l : List S36) (hl : l.length ≤ 1048576) : ∀ (d k i : Nat), i + d = l.length → d < k → laws_eqBitNumS.l0 k l l (i : Int) = some true := by
  intro d
  induction d with
  | zero =>
    intro k i hd hk
    obtain ⟨k, rfl⟩ : ∃ m, k = m + 1 := ⟨k - 1, by omega⟩
    simp only [laws_eqBitNumS.l0]
    rw [if_neg (by omega)]
  | succ d ih =>
    intro k i hd hk
    obtain ⟨k, rfl⟩ : ∃ m, k = m + 1 := ⟨k - 1, by omega⟩
    simp only [laws_eqBitNumS.l0]
    rw [if_pos (by omega), if_pos (by omega), if_pos (by omega), rdT36 (show i < l.length by omega)]
    unfold laws_eqBitNum.f
    rw [if_pos rfl, if_pos rfl, Option.bind_some, if_pos rfl, w64 (by omega) (by omega)]
    exact ih k (i + 1) (by omega) (by omega)
theorem eqBitNumS_self (l : List S36) (hl : l.length ≤ 1048576) (k : Nat) (hk : l.length < k) : laws_eqBitNumS.f k l l = some true := by
  unfold laws_eqBitNumS.f
  rw [if_pos rfl]
  exact eqBitNumS_l l hl l.length k 0 (by omega) hk
theorem markBitNumS_l : ∀ (d k i : Nat) (l : List S36), l.length ≤ 1048576 → i + d = l.length → d < k → ∃ m, laws_markBitNumS.l0 k l (1 + 2 * (i : Int)) (i : Int) = some (1 + 2 * (l.length : Int), m) := by
  intro d
  induction d with
  | zero =>
    intro k i l hl hd hk
    obtain ⟨k, rfl⟩ : ∃ m, k = m + 1 := ⟨k - 1, by omega⟩
    simp only [laws_markBitNumS.l0]
    rw [if_neg (by omega)]
    exact ⟨l, by rw [show (l.length : Int) = i by omega]⟩
  | succ d ih =>
    intro k i l hl hd hk
    obtain ⟨k, rfl⟩ : ∃ m, k = m + 1 := ⟨k - 1, by omega⟩
    simp only [laws_markBitNumS.l0]
    rw [if_pos (by omega), if_pos (by omega), Option.bind_some, w64 (x := 1 + 2 * (i : Int) + 1) (by omega) (by omega), w64 (x := 1 + 2 * (i : Int) + 1 + 1) (by omega) (by omega), w64 (x := (i : Int) + 1) (by omega) (by omega)]
    have key : ∀ L : List S36, L.length = l.length → ∃ m, laws_markBitNumS.l0 k L (1 + 2 * (i : Int) + 1 + 1) ((i : Int) + 1) = some (1 + 2 * (l.length : Int), m) := fun L hL => by
      obtain ⟨m, hm⟩ := ih k (i + 1) L (by omega) (by omega) (by omega)
      rw [show (1 : Int) + 2 * ((i + 1 : Nat) : Int) = 1 + 2 * (i : Int) + 1 + 1 by omega, hL] at hm
      exact ⟨m, hm⟩
    exact key _ (by rw [List.length_set, List.length_set])
theorem markBitNumS_ok (l : List S36) (hl : l.length ≤ 1048576) (k : Nat) (hk : l.length < k) : ∃ m, laws_markBitNumS.f k l 1 = some (1 + 2 * (l.length : Int), m) := markBitNumS_l l.length k 0 l hl (by omega) hk
end Go.Proofs.Ytfnkaccncmjnaaa.Pl
