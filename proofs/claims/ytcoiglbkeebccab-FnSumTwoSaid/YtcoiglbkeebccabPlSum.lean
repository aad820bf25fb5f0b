/- What the program's and the reference's sum of bytes come to: the two sums mod 65521, in closed form. The bytes are bytes, no more than 2^40. -/
import Derived.Test.YtcoiglbkeebccabPl
import Derived.Test.YtcoiglbkeebccabX0
import Derived.Test.YtcoiglbkeebccabX5
namespace Go.Proofs.Ytcoiglbkeebccab.Pl
open Go Go.RowKit Go.Proofs.Ytcoiglbkeebccab.X Go.Proofs.YtcoiglbkeebccabW.PrintWords Go.Proofs.YtcoiglbkeebccabW.PrintLast Go.Proofs.YtcoiglbkeebccabW.PrintMore

/-- The sum of the numbers. -/
def tot : List Int → Int
  | [] => 0
  | x :: l => x + tot l
/-- The sum of the sums. -/
def tots : List Int → Int
  | [] => 0
  | x :: l => ((l.length : Int) + 1) * x + tots l
theorem tot_snoc (l : List Int) (x : Int) : tot (l ++ [x]) = tot l + x := by
  induction l with
  | nil => simp [tot]
  | cons y l ih => simp only [List.cons_append, tot, ih]; omega
theorem tot_append (l m : List Int) : tot (l ++ m) = tot l + tot m := by
  induction l with
  | nil => simp [tot]
  | cons y l ih => simp only [List.cons_append, tot, ih]; omega
theorem tots_append (l m : List Int) : tots (l ++ m) = tots l + (m.length : Int) * tot l + tots m := by
  induction l with
  | nil => simp [tots, tot]
  | cons y l ih =>
    simp only [List.cons_append, tots, tot, ih, List.length_append]
    rw [show ((l.length + m.length : Nat) : Int) + 1 = ((l.length : Int) + 1) + (m.length : Int) by omega, Int.add_mul, Int.mul_add]
    omega
def sA (l : List Int) : Int := (1 + tot l) % 65521
def sB (l : List Int) : Int := ((l.length : Int) + tots l) % 65521
theorem sB_snoc (l : List Int) (x : Int) : sB (l ++ [x]) = (sB l + sA (l ++ [x])) % 65521 := by
  unfold sB sA
  rw [tots_append, tot_append, List.length_append]
  simp only [List.length_singleton, tot, tots, List.length_nil]
  omega
theorem sA_snoc (l : List Int) (x : Int) : sA (l ++ [x]) = (sA l + x) % 65521 := by
  unfold sA
  rw [tot_snoc]
  omega
theorem sA_in (l : List Int) : 0 ≤ sA l ∧ sA l < 65521 := by unfold sA; omega
theorem sB_in (l : List Int) : 0 ≤ sB l ∧ sB l < 65521 := by unfold sB; omega
def sumR (l : List Int) : Int := sB l * 65536 + sA l
theorem sum_step {l : List Int} (hb : Bytes l) (i : Nat) (h : i < l.length) :
    Int.tmod (wrap64 (sA (l.take i) + wrap64 (rd l (i : Int)))) 65521 = sA (l.take (i + 1)) ∧ Int.tmod (wrap64 (sB (l.take i) + sA (l.take (i + 1)))) 65521 = sB (l.take (i + 1)) := by
  obtain ⟨hx0, hx1⟩ := rd_byte hb (i : Int)
  have ha := sA_in (l.take i)
  have hbb := sB_in (l.take i)
  have ha' := sA_in (l.take (i + 1))
  rw [w64 (x := rd l (i : Int)) (by omega) (by omega), w64 (by omega) (by omega), w64 (by omega) (by omega), Int.tmod_eq_emod_of_nonneg (by omega), Int.tmod_eq_emod_of_nonneg (by omega)]
  rw [take_snoc l i h, sB_snoc, sA_snoc, rd_lt h]
  exact ⟨rfl, rfl⟩
theorem sum_out (l : List Int) : wrap64 (wrap64 (sB l * 65536) + sA l) = sumR l := by
  have ha := sA_in l
  have hb := sB_in l
  rw [w64 (x := sB l * 65536) (by omega) (by omega), w64 (by omega) (by omega)]
  rfl
theorem implSum_l (l : List Int) (hl : l.length ≤ 1099511627776) (hb : Bytes l) : ∀ (d k i : Nat), i + d = l.length → d < k → impl_SumOf.l0 k (sA (l.take i)) (sB (l.take i)) l (l.length : Int) (i : Int) = some (sumR l) := by
  intro d
  induction d with
  | zero =>
    intro k i hd hk
    obtain ⟨k, rfl⟩ : ∃ q, k = q + 1 := ⟨k - 1, by omega⟩
    simp only [impl_SumOf.l0]
    rw [if_neg (by omega), List.take_of_length_le (by omega), sum_out]
  | succ d ih =>
    intro k i hd hk
    obtain ⟨k, rfl⟩ : ∃ q, k = q + 1 := ⟨k - 1, by omega⟩
    simp only [impl_SumOf.l0]
    obtain ⟨h1, h2⟩ := sum_step hb i (by omega)
    rw [if_pos (by omega), if_pos (by omega), if_pos (by omega), w64 (x := (i : Int) + 1) (by omega) (by omega), h1, h2]
    exact ih k (i + 1) (by omega) (by omega)
theorem specSum_l (l : List Int) (hl : l.length ≤ 1099511627776) (hb : Bytes l) : ∀ (d k i : Nat), i + d = l.length → d < k → spec_SumOf.l0 k l (sA (l.take i)) (sB (l.take i)) (i : Int) = some (sumR l) := by
  intro d
  induction d with
  | zero =>
    intro k i hd hk
    obtain ⟨k, rfl⟩ : ∃ q, k = q + 1 := ⟨k - 1, by omega⟩
    simp only [spec_SumOf.l0]
    rw [if_neg (by omega), List.take_of_length_le (by omega), sum_out]
  | succ d ih =>
    intro k i hd hk
    obtain ⟨k, rfl⟩ : ∃ q, k = q + 1 := ⟨k - 1, by omega⟩
    simp only [spec_SumOf.l0]
    obtain ⟨h1, h2⟩ := sum_step hb i (by omega)
    rw [if_pos (by omega), if_pos (by omega), w64 (x := (i : Int) + 1) (by omega) (by omega), h1, h2]
    exact ih k (i + 1) (by omega) (by omega)
theorem implSum_ok (l : List Int) (hl : l.length ≤ 1099511627776) (hb : Bytes l) (k : Nat) (hk : l.length < k) : impl_SumOf.f k l = some (sumR l) := implSum_l l hl hb l.length k 0 (by omega) hk
theorem specSum_ok (l : List Int) (hl : l.length ≤ 1099511627776) (hb : Bytes l) (k : Nat) (hk : l.length < k) : spec_SumOf.f k l = some (sumR l) := specSum_l l hl hb l.length k 0 (by omega) hk
theorem sumR_hi (l : List Int) : Int.tdiv (sumR l) 65536 = sB l ∧ Int.tmod (sumR l) 65536 = sA l := by
  have ha := sA_in l
  have hb := sB_in l
  unfold sumR
  rw [Int.tdiv_eq_ediv_of_nonneg (by omega), Int.tmod_eq_emod_of_nonneg (by omega)]
  omega
theorem drawSum_l : ∀ (d : Nat) (x : List Int) (k : Nat), Bytes x → x.length + d = 700 → d < k → ∃ y, (∀ k, d < k → spec_DrawSumOf.l0 k x = some y) ∧ Bytes y ∧ y.length = 700 := by
  intro d
  induction d with
  | zero =>
    intro x k hx hd hk
    refine ⟨x, fun k hk => ?_, hx, by omega⟩
    obtain ⟨k, rfl⟩ : ∃ q, k = q + 1 := ⟨k - 1, by omega⟩
    unfold spec_DrawSumOf.l0
    rw [if_neg (by omega)]
  | succ d ih =>
    intro x k hx hd hk
    obtain ⟨y, hy, hyb, hyl⟩ := ih (x ++ [255]) (d + 1) (bytes_snoc hx ⟨by omega, by omega⟩) (by rw [List.length_append, List.length_singleton]; omega) (by omega)
    refine ⟨y, fun k hk => ?_, hyb, hyl⟩
    obtain ⟨k, rfl⟩ : ∃ q, k = q + 1 := ⟨k - 1, by omega⟩
    unfold spec_DrawSumOf.l0
    rw [if_pos (by omega), if_pos (by omega)]
    exact hy k (by omega)
end Go.Proofs.Ytcoiglbkeebccab.Pl
