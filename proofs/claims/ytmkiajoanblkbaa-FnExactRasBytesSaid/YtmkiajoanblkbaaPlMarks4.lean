/- Marks that are laid into colours, and found again. No condition but that lengths are none beyond memory. -/
import Derived.Test.YtmkiajoanblkbaaPlRas
import Derived.Test.YtmkiajoanblkbaaPlMark
import Derived.Test.YtmkiajoanblkbaaX0
import Derived.Test.YtmkiajoanblkbaaX62
import Derived.Test.YtmkiajoanblkbaaX63
namespace Go.Proofs.Ytmkiajoanblkbaa.Pl
open Go Go.RowKit Go.Proofs.Ytmkiajoanblkbaa.X Go.Proofs.YtmkiajoanblkbaaW.PrintWords Go.Proofs.YtmkiajoanblkbaaW.PrintLast Go.Proofs.YtmkiajoanblkbaaW.PrintMore
/-- The marks of so many colours. -/
def marks4 (n : Nat) : List S39 := (List.range n).map fun (i : Nat) => ⟨1 + 4 * (i : Int), 1 + 4 * (i : Int) + 1, 1 + 4 * (i : Int) + 2, 1 + 4 * (i : Int) + 3⟩
theorem marks4_len (n : Nat) : (marks4 n).length = n := by simp [marks4]
theorem marks4_get (n i : Nat) (h : i < (marks4 n).length) : (marks4 n)[i] = ⟨1 + 4 * (i : Int), 1 + 4 * (i : Int) + 1, 1 + 4 * (i : Int) + 2, 1 + 4 * (i : Int) + 3⟩ := by simp [marks4]
theorem rd_set {x : List S39} {i : Nat} (h : i < x.length) (v : S39) : rd_T39 (x.set i v) (i : Int) = v := by
  rw [rdP (show i < (x.set i v).length by rw [List.length_set]; exact h), List.getElem_set_self]
theorem four64 {x : Int} (h0 : 0 ≤ x) (h1 : x ≤ 1000000000) : wrap64 (x + 1) = x + 1 ∧ wrap64 (x + 1 + 1) = x + 2 ∧ wrap64 (x + 2 + 1) = x + 3 ∧ wrap64 (x + 3 + 1) = x + 4 :=
  ⟨w64 (by omega) (by omega), by rw [w64 (by omega) (by omega)]; omega, by rw [w64 (by omega) (by omega)]; omega, by rw [w64 (by omega) (by omega)]; omega⟩
theorem markPixS_l (l : List S39) (hl : l.length ≤ 2000000) : ∀ (d k i : Nat), i + d = l.length → d < k →
    laws_markPixPixS.l0 k ((marks4 l.length).take i ++ l.drop i) (1 + 4 * (i : Int)) (i : Int) = some (1 + 4 * (l.length : Int), marks4 l.length) := by
  intro d
  induction d with
  | zero =>
    intro k i hi hk
    obtain ⟨k, rfl⟩ : ∃ m, k = m + 1 := ⟨k - 1, by omega⟩
    obtain rfl : i = l.length := by omega
    have e : (marks4 l.length).take l.length ++ l.drop l.length = marks4 l.length := by
      rw [List.drop_length, List.append_nil, List.take_of_length_le (by rw [marks4_len]; exact Nat.le_refl _)]
    rw [e]
    simp only [laws_markPixPixS.l0]
    rw [if_neg (by rw [marks4_len]; exact Int.lt_irrefl _)]
  | succ d ih =>
    intro k i hi hk
    obtain ⟨k, rfl⟩ : ∃ m, k = m + 1 := ⟨k - 1, by omega⟩
    have hn := ih k (i + 1) (by omega) (by omega)
    have hm : i < (marks4 l.length).length := by rw [marks4_len]; omega
    have hx : ((marks4 l.length).take i ++ l.drop i).length = l.length := by
      rw [List.length_append, List.length_take, List.length_drop, marks4_len]; omega
    have hxi : i < ((marks4 l.length).take i ++ l.drop i).length := by rw [hx]; omega
    have f1 : (i : Int) < (((marks4 l.length).take i ++ l.drop i).length : Int) := Int.ofNat_lt.2 hxi
    have so := set_over l (marks4 l.length) i (marks4_len _) hm
    rw [marks4_get _ _ hm] at so
    obtain ⟨a1, a2, a3, a4⟩ := four64 (x := 1 + 4 * (i : Int)) (by omega) (by omega)
    have a5 : wrap64 ((i : Int) + 1) = ((i + 1 : Nat) : Int) := by
      clear a1 a2 a3 a4
      rw [w64 (by omega) (by omega)]; omega
    have a6 : 1 + 4 * (i : Int) + 4 = 1 + 4 * ((i + 1 : Nat) : Int) := by
      clear a1 a2 a3 a4 a5
      omega
    simp only [laws_markPixPixS.l0]
    rw [if_pos f1, if_pos (Int.natCast_nonneg i), Int.toNat_natCast, Option.bind_some, rd_set hxi, List.set_set, Option.bind_some, rd_set hxi, List.set_set, Option.bind_some, rd_set hxi, List.set_set, a1, a2, a3, a4, a5, so, a6]
    exact hn
theorem markRas_ok (W H : Int) (l : List S39) (hl : l.length ≤ 2000000) (k : Nat) (hk : l.length < k) : laws_markRasRaster.f k W H l 1 = some (1 + 4 * (l.length : Int), marks4 l.length) := by
  have e := markPixS_l l hl l.length k 0 (by omega) hk
  unfold laws_markRasRaster.f laws_markPixPixS.f
  rw [show (1 : Int) + 4 * ((0 : Nat) : Int) = 1 from rfl, show ((0 : Nat) : Int) = 0 from rfl, List.take_zero, List.drop_zero, List.nil_append] at e
  rw [e, Option.bind_some]
end Go.Proofs.Ytmkiajoanblkbaa.Pl
