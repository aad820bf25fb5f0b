/- What the laws' own helpers on pictures come to: a copy is the same picture, a picture is equal to itself, and to another just if it is that. Lists are no longer than the law takes. -/
import Derived.Test.YtmkiajoanblkbaaPlRas
import Derived.Test.YtmkiajoanblkbaaX0
import Derived.Test.YtmkiajoanblkbaaX33
import Derived.Test.YtmkiajoanblkbaaX34
import Derived.Test.YtmkiajoanblkbaaX35
import Derived.Test.YtmkiajoanblkbaaX36
import Derived.Test.YtmkiajoanblkbaaX37
import Derived.Test.YtmkiajoanblkbaaX38
import Derived.Test.YtmkiajoanblkbaaX39
import Derived.Test.YtmkiajoanblkbaaX40
namespace Go.Proofs.Ytmkiajoanblkbaa.Pl
open Go Go.RowKit Go.Proofs.Ytmkiajoanblkbaa.X Go.Proofs.YtmkiajoanblkbaaW.PrintWords Go.Proofs.YtmkiajoanblkbaaW.PrintLast Go.Proofs.YtmkiajoanblkbaaW.PrintMore
def cpPix (x : S84) : S39 := ⟨x.f0, x.f1, x.f2, x.f3⟩
theorem rdLP {xs : List S84} {i : Nat} (h : i < xs.length) : rd_T84 xs (i : Int) = xs[i] := by
  unfold rd_T84
  rw [Int.toNat_natCast, List.getD_eq_getElem?_getD, List.getElem?_eq_getElem h]; rfl
theorem toPixPixS_l (l : List S84) (hl : l.length ≤ 1048576) : ∀ (d k i : Nat), i + d = l.length → d < k →
    laws_toPixPixS.l0 k l ((l.map cpPix).take i ++ List.replicate (l.length - i) z39) (i : Int) = some (l.map cpPix) := by
  have hml : (l.map cpPix).length = l.length := List.length_map _
  intro d
  induction d with
  | zero =>
    intro k i hd hk
    obtain ⟨k, rfl⟩ : ∃ m, k = m + 1 := ⟨k - 1, by omega⟩
    obtain rfl : i = l.length := by omega
    simp only [laws_toPixPixS.l0]
    rw [if_neg (by omega), List.take_of_length_le (by omega), Nat.sub_self]; simp
  | succ d ih =>
    intro k i hd hk
    obtain ⟨k, rfl⟩ : ∃ m, k = m + 1 := ⟨k - 1, by omega⟩
    have hi : i < l.length := by omega
    simp only [laws_toPixPixS.l0]
    have hs := set_next (l.map cpPix) z39 i (by omega)
    simp only [List.length_map, List.getElem_map] at hs
    rw [if_pos (by omega), if_pos (by omega), rdLP hi]
    unfold laws_toPixPix.f
    rw [Option.bind_some, if_pos (by rw [List.length_append, List.length_take, List.length_replicate]; omega), w64 (by omega) (by omega), Int.toNat_natCast]
    have e := ih k (i + 1) (by omega) (by omega)
    rw [← hs] at e
    exact e
theorem toPixPixS_ok (l : List S84) (hl : l.length ≤ 1048576) (k : Nat) (hk : l.length < k) : laws_toPixPixS.f k l = some (l.map cpPix) := by
  unfold laws_toPixPixS.f
  rw [if_pos (by omega), if_pos (by omega), Int.toNat_natCast]
  simpa using toPixPixS_l l hl l.length k 0 (by omega) hk
theorem toRas_ok (W H : Int) (l : List S84) (hl : l.length ≤ 1048576) (k : Nat) (hk : l.length < k) : laws_toRasRaster.f k W H l = some (W, H, l.map cpPix) := by
  unfold laws_toRasRaster.f
  rw [toPixPixS_ok l hl k hk, Option.bind_some]
theorem eqPix_self (a b c d : Int) : laws_eqPixPix.f a b c d a b c d = some true := by
  unfold laws_eqPixPix.f
  rw [if_pos rfl, if_pos rfl, if_pos rfl, if_pos rfl]
theorem eqPixS_l (l : List S39) (hl : l.length ≤ 1048576) : ∀ (d k i : Nat), i + d = l.length → d < k → laws_eqPixPixS.l0 k l l (i : Int) = some true := by
  intro d
  induction d with
  | zero =>
    intro k i hd hk
    obtain ⟨k, rfl⟩ : ∃ m, k = m + 1 := ⟨k - 1, by omega⟩
    simp only [laws_eqPixPixS.l0]
    rw [if_neg (by omega)]
  | succ d ih =>
    intro k i hd hk
    obtain ⟨k, rfl⟩ : ∃ m, k = m + 1 := ⟨k - 1, by omega⟩
    simp only [laws_eqPixPixS.l0]
    rw [if_pos (by omega), if_pos (by omega), if_pos (by omega), eqPix_self, Option.bind_some, if_pos rfl, w64 (by omega) (by omega)]
    exact ih k (i + 1) (by omega) (by omega)
theorem eqRas_self (W H : Int) (l : List S39) (hl : l.length ≤ 1048576) (k : Nat) (hk : l.length < k) : laws_eqRasRaster.f k W H l W H l = some true := by
  unfold laws_eqRasRaster.f laws_eqPixPixS.f
  rw [if_pos rfl, if_pos rfl, if_pos rfl, show (0 : Int) = ((0 : Nat) : Int) from rfl, eqPixS_l l hl l.length k 0 (by omega) hk, Option.bind_some, if_pos rfl]
theorem szRas_ok (W H : Int) (l : List S84) (hl : l.length ≤ 9223372036854775807) : laws_szRasRaster.f W H l 1048576 = some (if (l.length : Int) > 1048576 then -1 else 1048576 - (l.length : Int)) := by
  unfold laws_szRasRaster.f laws_szPixPixS.f
  rw [w64 (by omega) (by omega)]
  by_cases h : (l.length : Int) > 1048576
  · rw [if_pos (by omega), Option.bind_some, if_pos (by omega), if_pos h]
  · rw [if_neg (by omega), Option.bind_some, if_neg (by omega), if_neg h]
end Go.Proofs.Ytmkiajoanblkbaa.Pl
