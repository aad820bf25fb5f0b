/- What the program and the reference read as a picture: one and the same, of all bytes. -/
import Derived.Test.YthnmeogafklhnaaPlRas
import Derived.Test.YthnmeogafklhnaaX0
import Derived.Test.YthnmeogafklhnaaX63
import Derived.Test.YthnmeogafklhnaaX65
namespace Go.Proofs.Ythnmeogafklhnaa.Pl
open Go Go.RowKit Go.Proofs.Ythnmeogafklhnaa.X Go.Proofs.YthnmeogafklhnaaW.PrintWords Go.Proofs.YthnmeogafklhnaaW.PrintLast Go.Proofs.YthnmeogafklhnaaW.PrintMore
theorem rd_drop (l : List Int) (m i : Nat) : rd (l.drop m) (i : Int) = rd l ((m + i : Nat) : Int) := by
  rw [rd_nat, rd_nat]
  simp [List.getD_eq_getElem?_getD, List.getElem?_drop]
def px (l : List Int) (j : Nat) : S38 := ⟨wrap64 (rd l ((2 + 4 * j : Nat) : Int)), wrap64 (rd l ((2 + 4 * j + 1 : Nat) : Int)), wrap64 (rd l ((2 + 4 * j + 2 : Nat) : Int)), wrap64 (rd l ((2 + 4 * j + 3 : Nat) : Int))⟩
theorem grid_px (l : List Int) (a b : Nat) : rq_grid a b (rq_readS a l) = (List.range (a * b)).map (px l) := by
  unfold rq_grid
  refine List.map_congr_left fun j _ => ?_
  have e : (2 + 4 * (((j / a : Nat) : Int) * (a : Int) + ((j % a : Nat) : Int))).toNat = 2 + 4 * j := by
    rw [← Int.natCast_mul, ← Int.natCast_add, Nat.div_add_mod']; omega
  unfold rq_readS px
  dsimp only
  rw [e, show (0 : Int) = ((0 : Nat) : Int) from rfl, show (1 : Int) = ((1 : Nat) : Int) from rfl, show (2 : Int) = ((2 : Nat) : Int) from rfl, show (3 : Int) = ((3 : Nat) : Int) from rfl, rd_drop, rd_drop, rd_drop, rd_drop, Nat.add_zero]
/-- What is read of bytes. -/
def readR (l : List Int) : Int × Int × List S38 × Bool :=
  if l.length < 2 then (0, 0, [], false) else
  if (1 ≤ wrap64 (rd l 0) ∧ wrap64 (rd l 0) ≤ 6) ∧ (1 ≤ wrap64 (rd l 1) ∧ wrap64 (rd l 1) ≤ 6) ∧ (l.length : Int) = 2 + 4 * (wrap64 (rd l 0) * wrap64 (rd l 1)) then (wrap64 (rd l 0), wrap64 (rd l 1), rq_grid (wrap64 (rd l 0)).toNat (wrap64 (rd l 1)).toNat (rq_readS (wrap64 (rd l 0)).toNat l), true) else (0, 0, [], false)
theorem implRasRead_ok (l : List Int) : impl_RasRead.f l = some (readR l) := by
  unfold impl_RasRead.f readR
  split
  · rfl
  · split <;> rfl
theorem add64 (m : Nat) (h : m ≤ 1000) : wrap64 ((m : Int) + 1) = ((m + 1 : Nat) : Int) ∧ wrap64 ((m : Int) + 2) = ((m + 2 : Nat) : Int) ∧ wrap64 ((m : Int) + 3) = ((m + 3 : Nat) : Int) ∧ wrap64 ((m : Int) + 4) = ((m + 4 : Nat) : Int) :=
  ⟨by rw [w64 (by omega) (by omega)]; omega, by rw [w64 (by omega) (by omega)]; omega, by rw [w64 (by omega) (by omega)]; omega, by rw [w64 (by omega) (by omega)]; omega⟩
theorem sRead_l (l : List Int) (a b : Int) (n : Nat) (hl : l.length = 2 + 4 * n) (hn : n ≤ 36) : ∀ (d i k : Nat), i + d = n → d < k →
    spec_RasRead.l0 k l ((2 + 4 * i : Nat) : Int) a b ((List.range i).map (px l)) = some (a, b, (List.range n).map (px l), true) := by
  intro d
  induction d with
  | zero =>
    intro i k hi hk
    obtain ⟨k, rfl⟩ : ∃ m, k = m + 1 := ⟨k - 1, by omega⟩
    obtain rfl : i = n := by omega
    simp only [spec_RasRead.l0]
    rw [if_neg (by omega)]
  | succ d ih =>
    intro i k hi hk
    obtain ⟨k, rfl⟩ : ∃ m, k = m + 1 := ⟨k - 1, by omega⟩
    have hq := ih (i + 1) k (by omega) (by omega)
    have f0 : ((2 + 4 * i : Nat) : Int) < (l.length : Int) := by omega
    have f1 : ((2 + 4 * i + 1 : Nat) : Int) < (l.length : Int) := by omega
    have f2 : ((2 + 4 * i + 2 : Nat) : Int) < (l.length : Int) := by omega
    have f3 : ((2 + 4 * i + 3 : Nat) : Int) < (l.length : Int) := by omega
    have f4 : ((List.range i).map (px l)).length < 4398046511104 := by
      rw [List.length_map, List.length_range]
      exact Nat.lt_of_le_of_lt (show i ≤ 36 by omega) (by decide)
    have f5 : 2 + 4 * i ≤ 1000 := by omega
    obtain ⟨a1, a2, a3, a4⟩ := add64 (2 + 4 * i) f5
    have e : (List.range i).map (px l) ++ [⟨wrap64 (rd l ((2 + 4 * i : Nat) : Int)), wrap64 (rd l ((2 + 4 * i + 1 : Nat) : Int)), wrap64 (rd l ((2 + 4 * i + 2 : Nat) : Int)), wrap64 (rd l ((2 + 4 * i + 3 : Nat) : Int))⟩] = (List.range (i + 1)).map (px l) := by
      rw [List.range_succ, List.map_append, List.map_singleton]; rfl
    simp only [spec_RasRead.l0]
    rw [if_pos f0, if_pos (Int.natCast_nonneg _), a1, if_pos (Int.natCast_nonneg _), if_pos f1, a2, if_pos (Int.natCast_nonneg _), if_pos f2, a3, if_pos (Int.natCast_nonneg _), if_pos f3, if_pos f4, e, a4]
    exact hq
theorem specRasRead_ok (l : List Int) (hb : Bytes l) (k : Nat) (hk : 100 ≤ k) : spec_RasRead.f k l = some (readR l) := by
  have h0 := rd_byte hb 0
  have h1 := rd_byte hb 1
  unfold Byte at h0 h1
  have e0 : wrap64 (rd l 0) = rd l 0 := w64 (by omega) (by omega)
  have E0 := Aside0.mk e0
  clear e0
  have e1 : wrap64 (rd l 1) = rd l 1 := w64 (by omega) (by omega)
  have E1 := Aside0.mk e1
  clear e1
  obtain ⟨k, rfl⟩ : ∃ m, k = m + 1 := ⟨k - 1, by omega⟩
  unfold spec_RasRead.f readR
  rw [E0.out, E1.out]
  obtain ⟨a, ha⟩ : ∃ a : Nat, rd l 0 = (a : Int) := ⟨(rd l 0).toNat, by omega⟩
  obtain ⟨b, hb'⟩ : ∃ b : Nat, rd l 1 = (b : Int) := ⟨(rd l 1).toNat, by omega⟩
  rw [ha, hb'] at *
  clear E0 E1
  have hno (h : ¬ ((1 ≤ (a : Int) ∧ (a : Int) ≤ 6) ∧ (1 ≤ (b : Int) ∧ (b : Int) ≤ 6) ∧ (l.length : Int) = 2 + 4 * ((a : Int) * (b : Int)))) : (if l.length < 2 then ((0, 0, [], false) : Int × Int × List S38 × Bool) else if (1 ≤ (a : Int) ∧ (a : Int) ≤ 6) ∧ (1 ≤ (b : Int) ∧ (b : Int) ≤ 6) ∧ (l.length : Int) = 2 + 4 * ((a : Int) * (b : Int)) then ((a : Int), (b : Int), rq_grid (a : Int).toNat (b : Int).toNat (rq_readS (a : Int).toNat l), true) else (0, 0, [], false)) = (0, 0, [], false) := by
    split
    · rfl
    · first | rfl | rw [if_neg h]
  by_cases h6 : (l.length : Int) < 6
  · rw [if_pos h6, hno]
    rintro ⟨⟨p1, p2⟩, ⟨p3, p4⟩, p5⟩
    have := Int.mul_le_mul p1 p3 (by decide) (by omega)
    omega
  · rw [if_neg h6, if_pos (by omega), if_pos (by omega)]
    by_cases ha6 : (a : Int) > 6
    · rw [if_pos ha6, hno (fun h => by omega)]
      simp only [spec_RasRead.j0]
      rw [if_pos trivial]
    · rw [if_neg ha6]
      by_cases hb6 : (b : Int) > 6
      · rw [if_pos hb6, hno (fun h => by omega)]
        simp only [spec_RasRead.j0]
        rw [if_pos trivial]
      · have hm : a * b ≤ 6 * 6 := Nat.mul_le_mul (by omega) (by omega)
        rw [if_neg hb6, w64 (x := 4 * (a : Int)) (by omega) (by omega), Int.mul_assoc, ← Int.natCast_mul, w64 (x := 4 * ((a * b : Nat) : Int)) (by omega) (by omega), w64 (x := 2 + 4 * ((a * b : Nat) : Int)) (by omega) (by omega)]
        simp only [spec_RasRead.j0]
        by_cases hl : l.length = 2 + 4 * (a * b)
        · have hp : 1 ≤ a * b := by omega
          have pa : 1 ≤ a := Nat.pos_of_ne_zero (fun h => by rw [h, Nat.zero_mul] at hp; omega)
          have pb : 1 ≤ b := Nat.pos_of_ne_zero (fun h => by rw [h, Nat.mul_zero] at hp; omega)
          have hc : ((l.length : Int) != 2 + 4 * ((a * b : Nat) : Int)) = false := bne_eq_false_iff_eq.mpr (by omega)
          have e := sRead_l l (a : Int) (b : Int) (a * b) hl hm (a * b) 0 k (Nat.zero_add _) (by omega)
          rw [hc, if_neg (by decide), if_neg (show ¬ l.length < 2 by omega), if_pos ⟨⟨by omega, by omega⟩, ⟨by omega, by omega⟩, by omega⟩, Int.toNat_natCast, Int.toNat_natCast, grid_px]
          exact e
        · have hc : ((l.length : Int) != 2 + 4 * ((a * b : Nat) : Int)) = true := bne_iff_ne.mpr (by omega)
          rw [hc, if_pos rfl, if_neg (show ¬ l.length < 2 by omega), if_neg (fun h => by omega)]
theorem readR_len (l : List Int) : (readR l).2.2.1.length ≤ 36 := by
  unfold readR
  split
  · exact Nat.zero_le _
  · split
    · rename_i h
      obtain ⟨⟨p1, p2⟩, ⟨p3, p4⟩, _⟩ := h
      have h1 : (wrap64 (rd l 0)).toNat ≤ 6 := by omega
      have h2 : (wrap64 (rd l 1)).toNat ≤ 6 := by omega
      dsimp only
      unfold rq_grid
      rw [List.length_map, List.length_range]
      exact Nat.mul_le_mul h1 h2
    · exact Nat.zero_le _
end Go.Proofs.Ythnmeogafklhnaa.Pl
