/- Marks that are laid into bytes and into colours, and found again; a picture is itself. No condition but that lengths are none beyond memory. -/
import Derived.Test.YthnmeogafklhnaaPlRas
import Derived.Test.YthnmeogafklhnaaX0
import Derived.Test.YthnmeogafklhnaaX66
import Derived.Test.YthnmeogafklhnaaX67
import Derived.Test.YthnmeogafklhnaaX68
import Derived.Test.YthnmeogafklhnaaX70
import Derived.Test.YthnmeogafklhnaaX71
import Derived.Test.YthnmeogafklhnaaX72
import Derived.Test.YthnmeogafklhnaaX73
import Derived.Test.YthnmeogafklhnaaX74
namespace Go.Proofs.Ythnmeogafklhnaa.Pl
open Go Go.RowKit Go.Proofs.Ythnmeogafklhnaa.X Go.Proofs.YthnmeogafklhnaaW.PrintWords Go.Proofs.YthnmeogafklhnaaW.PrintLast Go.Proofs.YthnmeogafklhnaaW.PrintMore
def marks (n : Nat) : List Int := (List.range n).map fun (i : Nat) => (1 + (i : Int)) % 256
theorem marks_len (n : Nat) : (marks n).length = n := by simp [marks]
theorem marks_get (n i : Nat) (h : i < (marks n).length) : (marks n)[i] = (1 + (i : Int)) % 256 := by simp [marks]
/-- Written place by place over what was there. -/
theorem set_over {α : Type} (l m : List α) (i : Nat) (hl : m.length = l.length) (h : i < m.length) : (m.take i ++ l.drop i).set i m[i] = m.take (i + 1) ++ l.drop (i + 1) := by
  have hi : (m.take i).length = i := by rw [List.length_take]; omega
  rw [List.set_append_right _ _ (by omega), hi, Nat.sub_self, List.drop_eq_getElem_cons (show i < l.length by omega), List.set_cons_zero, take_snoc m i h, List.append_assoc]; rfl
theorem markByteS_l (l : List Int) (hl : l.length ≤ 140737488351232) : ∀ (d k i : Nat), i + d = l.length → d < k →
    laws_markByteS.l0 k ((marks l.length).take i ++ l.drop i) (1 + (i : Int)) (i : Int) = some (1 + (l.length : Int), marks l.length) := by
  have hm := marks_len l.length
  intro d
  induction d with
  | zero =>
    intro k i hd hk
    obtain ⟨k, rfl⟩ : ∃ m, k = m + 1 := ⟨k - 1, by omega⟩
    obtain rfl : i = l.length := by omega
    simp only [laws_markByteS.l0]
    rw [if_neg (by rw [List.length_append, List.length_take, List.length_drop]; omega), List.take_of_length_le (by omega), List.drop_of_length_le (by omega), List.append_nil]
  | succ d ih =>
    intro k i hd hk
    obtain ⟨k, rfl⟩ : ∃ m, k = m + 1 := ⟨k - 1, by omega⟩
    simp only [laws_markByteS.l0]
    have hlen : ((marks l.length).take i ++ l.drop i).length = l.length := by rw [List.length_append, List.length_take, List.length_drop]; omega
    rw [if_pos (by omega), if_pos (by omega), w64 (x := 1 + (i : Int) + 1) (by omega) (by omega), w64 (x := (i : Int) + 1) (by omega) (by omega), Int.toNat_natCast, ← marks_get l.length i (by omega), set_over l _ i hm (by omega)]
    have e := ih k (i + 1) (by omega) (by omega)
    rw [show (1 : Int) + ((i + 1 : Nat) : Int) = 1 + (i : Int) + 1 by omega] at e
    exact e
theorem markByteS_ok (l : List Int) (hl : l.length ≤ 140737488351232) (k : Nat) (hk : l.length < k) : laws_markByteS.f k l 1 = some (1 + (l.length : Int), marks l.length) := markByteS_l l hl l.length k 0 (by omega) hk
theorem eqPix_self (a b c d : Int) : laws_eqPixPix.f a b c d a b c d = some true := by
  unfold laws_eqPixPix.f
  rw [if_pos rfl, if_pos rfl, if_pos rfl, if_pos rfl]
theorem eqPixS_l (l : List S38) (hl : l.length ≤ 1048576) : ∀ (d k i : Nat), i + d = l.length → d < k → laws_eqPixPixS.l0 k l l (i : Int) = some true := by
  intro d
  induction d with
  | zero =>
    intro k i hd hk
    obtain ⟨k, rfl⟩ : ∃ m, k = m + 1 := ⟨k - 1, by omega⟩
    simp only [laws_eqPixPixS.l0]
    rw [if_neg (by omega)]
  | succ d ih =>
    intro k i hd hk
    obtain ⟨k, rfl⟩ : ∃ m, k = m + 1 := ⟨k - 1, by omega⟩
    simp only [laws_eqPixPixS.l0]
    rw [if_pos (by omega), if_pos (by omega), if_pos (by omega), eqPix_self, Option.bind_some, if_pos rfl, w64 (by omega) (by omega)]
    exact ih k (i + 1) (by omega) (by omega)
theorem eqRas_self (W H : Int) (l : List S38) (hl : l.length ≤ 1048576) (k : Nat) (hk : l.length < k) : laws_eqRasRaster.f k W H l W H l = some true := by
  unfold laws_eqRasRaster.f laws_eqPixPixS.f
  rw [if_pos rfl, if_pos rfl, if_pos rfl, show (0 : Int) = ((0 : Nat) : Int) from rfl, eqPixS_l l hl l.length k 0 (by omega) hk, Option.bind_some, if_pos rfl]
/-- The marks of so many colours. -/
def marks4 (n : Nat) : List S38 := (List.range n).map fun (i : Nat) => ⟨1 + 4 * (i : Int), 1 + 4 * (i : Int) + 1, 1 + 4 * (i : Int) + 2, 1 + 4 * (i : Int) + 3⟩
theorem marks4_len (n : Nat) : (marks4 n).length = n := by simp [marks4]
theorem marks4_get (n i : Nat) (h : i < (marks4 n).length) : (marks4 n)[i] = ⟨1 + 4 * (i : Int), 1 + 4 * (i : Int) + 1, 1 + 4 * (i : Int) + 2, 1 + 4 * (i : Int) + 3⟩ := by simp [marks4]
theorem rd_set {x : List S38} {i : Nat} (h : i < x.length) (v : S38) : rd_T38 (x.set i v) (i : Int) = v := by
  rw [rdP (show i < (x.set i v).length by rw [List.length_set]; exact h), List.getElem_set_self]
theorem four64 {x : Int} (h0 : 0 ≤ x) (h1 : x ≤ 1000000) : wrap64 (x + 1) = x + 1 ∧ wrap64 (x + 1 + 1) = x + 2 ∧ wrap64 (x + 2 + 1) = x + 3 ∧ wrap64 (x + 3 + 1) = x + 4 :=
  ⟨w64 (by omega) (by omega), by rw [w64 (by omega) (by omega)]; omega, by rw [w64 (by omega) (by omega)]; omega, by rw [w64 (by omega) (by omega)]; omega⟩
theorem markPixS_l (l : List S38) (hl : l.length ≤ 1000) : ∀ (d k i : Nat), i + d = l.length → d < k →
    laws_markPixPixS.l0 k ((marks4 l.length).take i ++ l.drop i) (1 + 4 * (i : Int)) (i : Int) = some (1 + 4 * (l.length : Int), marks4 l.length) := by
  intro d
  induction d with
  | zero =>
    intro k i hi hk
    obtain ⟨k, rfl⟩ : ∃ m, k = m + 1 := ⟨k - 1, by omega⟩
    obtain rfl : i = l.length := by omega
    have e : (marks4 l.length).take l.length ++ l.drop l.length = marks4 l.length := by
      rw [List.drop_length, List.append_nil, List.take_of_length_le (by rw [marks4_len]; exact Nat.le_refl _)]
    rw [e]
    simp only [laws_markPixPixS.l0]
    rw [if_neg (by rw [marks4_len]; exact Int.lt_irrefl _)]
  | succ d ih =>
    intro k i hi hk
    obtain ⟨k, rfl⟩ : ∃ m, k = m + 1 := ⟨k - 1, by omega⟩
    have hn := ih k (i + 1) (by omega) (by omega)
    have hm : i < (marks4 l.length).length := by rw [marks4_len]; omega
    have hx : ((marks4 l.length).take i ++ l.drop i).length = l.length := by
      rw [List.length_append, List.length_take, List.length_drop, marks4_len]; omega
    have hxi : i < ((marks4 l.length).take i ++ l.drop i).length := by rw [hx]; omega
    have f1 : (i : Int) < (((marks4 l.length).take i ++ l.drop i).length : Int) := Int.ofNat_lt.2 hxi
    have so := set_over l (marks4 l.length) i (marks4_len _) hm
    rw [marks4_get _ _ hm] at so
    obtain ⟨a1, a2, a3, a4⟩ := four64 (x := 1 + 4 * (i : Int)) (by omega) (by omega)
    have a5 : wrap64 ((i : Int) + 1) = ((i + 1 : Nat) : Int) := by
      clear a1 a2 a3 a4
      rw [w64 (by omega) (by omega)]; omega
    have a6 : 1 + 4 * (i : Int) + 4 = 1 + 4 * ((i + 1 : Nat) : Int) := by
      clear a1 a2 a3 a4 a5
      omega
    simp only [laws_markPixPixS.l0]
    rw [if_pos f1, if_pos (Int.natCast_nonneg i), Int.toNat_natCast, Option.bind_some, rd_set hxi, List.set_set, Option.bind_some, rd_set hxi, List.set_set, Option.bind_some, rd_set hxi, List.set_set, a1, a2, a3, a4, a5, so, a6]
    exact hn
theorem markRas_ok (W H : Int) (l : List S38) (hl : l.length ≤ 1000) (k : Nat) (hk : l.length < k) : laws_markRasRaster.f k W H l 1 = some (1 + 4 * (l.length : Int), marks4 l.length) := by
  have e := markPixS_l l hl l.length k 0 (by omega) hk
  unfold laws_markRasRaster.f laws_markPixPixS.f
  rw [show (1 : Int) + 4 * ((0 : Nat) : Int) = 1 from rfl, show ((0 : Nat) : Int) = 0 from rfl, List.take_zero, List.drop_zero, List.nil_append] at e
  rw [e, Option.bind_some]
theorem heldPixS_l (n : Nat) (hn : n ≤ 1000) : ∀ (d k i : Nat), i + d = n → d < k → laws_heldPixPixS.l0 k (marks4 n) (1 + 4 * (i : Int)) (i : Int) = some (1 + 4 * (n : Int)) := by
  intro d
  induction d with
  | zero =>
    intro k i hi hk
    obtain ⟨k, rfl⟩ : ∃ m, k = m + 1 := ⟨k - 1, by omega⟩
    obtain rfl : i = n := by omega
    simp only [laws_heldPixPixS.l0]
    rw [if_neg (by rw [marks4_len]; exact Int.lt_irrefl _)]
  | succ d ih =>
    intro k i hi hk
    obtain ⟨k, rfl⟩ : ∃ m, k = m + 1 := ⟨k - 1, by omega⟩
    have hq := ih k (i + 1) (by omega) (by omega)
    have hm : i < (marks4 n).length := by rw [marks4_len]; omega
    have f1 : (i : Int) < ((marks4 n).length : Int) := Int.ofNat_lt.2 hm
    obtain ⟨a1, a2, a3, a4⟩ := four64 (x := 1 + 4 * (i : Int)) (by omega) (by omega)
    have a5 : wrap64 ((i : Int) + 1) = ((i + 1 : Nat) : Int) := by
      clear a1 a2 a3 a4
      rw [w64 (by omega) (by omega)]; omega
    have a6 : 1 + 4 * (i : Int) + 4 = 1 + 4 * ((i + 1 : Nat) : Int) := by
      clear a1 a2 a3 a4 a5
      omega
    simp only [laws_heldPixPixS.l0]
    rw [if_pos f1, if_pos (Int.natCast_nonneg i), rdP hm, marks4_get _ _ hm, if_pos rfl, a1, if_pos rfl, a2, if_pos rfl, a3, if_pos rfl, a4, a5, a6]
    exact hq
theorem heldRas_ok (W H : Int) (n : Nat) (hn : n ≤ 1000) (k : Nat) (hk : n < k) : laws_heldRasRaster.f k W H (marks4 n) 1 = some (1 + 4 * (n : Int)) := by
  have e := heldPixS_l n hn n k 0 (by omega) hk
  unfold laws_heldRasRaster.f laws_heldPixPixS.f
  rw [show (1 : Int) + 4 * ((0 : Nat) : Int) = 1 from rfl, show ((0 : Nat) : Int) = 0 from rfl] at e
  rw [e, Option.bind_some, if_neg (by omega)]
end Go.Proofs.Ythnmeogafklhnaa.Pl
