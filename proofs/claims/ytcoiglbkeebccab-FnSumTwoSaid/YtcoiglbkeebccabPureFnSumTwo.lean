/- The sum of two rows of bytes out of their sums, whatever is drawn: the pure statement of the law FnSumTwo. No condition. -/
import Derived.Test.YtcoiglbkeebccabPlSumD
import Derived.Test.YtcoiglbkeebccabPlEaOk
import Derived.Test.YtcoiglbkeebccabX0
import Derived.Test.YtcoiglbkeebccabX6
namespace Go.Proofs.Ytcoiglbkeebccab.Pure
open Go Go.RowKit Go.Proofs.Ytcoiglbkeebccab.X Go.Proofs.Ytcoiglbkeebccab.Pl Go.Proofs.YtcoiglbkeebccabW.PrintWords Go.Proofs.YtcoiglbkeebccabW.PrintLast Go.Proofs.YtcoiglbkeebccabW.PrintMore
theorem sumTwo_law (s t : List Int) (ht : t.length ≤ 700) : sumR (s ++ t) = wrap64 (wrap64 (Int.tmod (wrap64 (wrap64 (wrap64 (Int.tdiv (sumR s) 65536) + wrap64 (Int.tdiv (sumR t) 65536)) + wrap64 ((t.length : Int) % 65521 * wrap64 (Int.tmod (sumR s) 65536 + 65520)))) 65521 * 65536) + Int.tmod (wrap64 (wrap64 (Int.tmod (sumR s) 65536 + Int.tmod (sumR t) 65536) + 65520)) 65521) := by
  obtain ⟨e1, e2⟩ := sumR_hi s
  obtain ⟨f1, f2⟩ := sumR_hi t
  have a1 := sA_in s
  have a2 := sB_in s
  have b1 := sA_in t
  have b2 := sB_in t
  have hm0 : 0 ≤ (t.length : Int) * (sA s + 65520) := Int.mul_nonneg (by omega) (by omega)
  have hm1 : (t.length : Int) * (sA s + 65520) ≤ 700 * (65521 + 65520) := Int.mul_le_mul (by omega) (by omega) (by omega) (by omega)
  rw [e1, e2, f1, f2, show (t.length : Int) % 65521 = (t.length : Int) by omega]
  rw [w64 (x := sB s) (by omega) (by omega), w64 (x := sB t) (by omega) (by omega), w64 (x := sB s + sB t) (by omega) (by omega), w64 (x := sA s + 65520) (by omega) (by omega), w64 (x := sA s + sA t) (by omega) (by omega), w64 (x := sA s + sA t + 65520) (by omega) (by omega), w64 (x := (t.length : Int) * (sA s + 65520)) (by omega) (by omega), w64 (x := sB s + sB t + (t.length : Int) * (sA s + 65520)) (by omega) (by omega)]
  rw [Int.tmod_eq_emod_of_nonneg (by omega), Int.tmod_eq_emod_of_nonneg (by omega)]
  have hA : sA (s ++ t) = (sA s + sA t + 65520) % 65521 := by
    unfold sA
    rw [tot_append]
    omega
  have hB : sB (s ++ t) = (sB s + sB t + (t.length : Int) * (sA s + 65520)) % 65521 := by
    have hk : ((t.length : Int) * (sA s + 65520)) % 65521 = ((t.length : Int) * tot s) % 65521 := by
      have h1 : (sA s + 65520) % 65521 = tot s % 65521 := by unfold sA; omega
      rw [Int.mul_emod, h1, ← Int.mul_emod]
    unfold sB
    rw [tots_append, List.length_append]
    omega
  unfold sumR
  rw [hA, hB, w64 (x := _ % 65521 * 65536) (by omega) (by omega), w64 (by omega) (by omega)]
theorem FnSumTwo : laws_FnSumTwo.Pure := by
  intro l m _ hl hb _ hm hbm
  obtain ⟨s, hd, hs, hsl⟩ := drawSum_ok l (bytes_wf hb)
  obtain ⟨t, hd', ht, htl⟩ := drawSum_ok m (bytes_wf hbm)
  obtain ⟨k, hk⟩ : ∃ k : Nat, 2000 ≤ k := ⟨2000, by omega⟩
  refine ⟨k + 1 + 1, ?_⟩
  have hj (b : Bool) : laws_FnSumTwo.j0 (k + 1 + 1) l m b = some true := by
    simp only [laws_FnSumTwo.j0]
    cases b with
    | true => rfl
    | false =>
      rw [if_neg (by decide), hd (k + 1) (by omega), Option.bind_some, hd' (k + 1) (by omega), Option.bind_some, implSum_ok s (by omega) hs (k + 1) (by omega), Option.bind_some, implSum_ok t (by omega) ht (k + 1) (by omega), Option.bind_some, specSum_ok s (by omega) hs (k + 1) (by omega), Option.bind_some, if_pos rfl, specSum_ok t (by omega) ht (k + 1) (by omega), Option.bind_some]
      simp only [laws_FnSumTwo.j1]
      rw [if_neg (by simp), Option.bind_some, if_pos (by simp only [List.length_nil]; omega), Option.bind_some, if_pos (by simp only [List.length_append, List.length_nil]; omega), List.nil_append, implSum_ok (s ++ t) (by rw [List.length_append]; omega) (bytes_append hs ht) k (by rw [List.length_append]; omega), Option.bind_some, if_pos (sumTwo_law s t htl), eaOk_ok, Option.bind_some]
  unfold laws_FnSumTwo.f
  split
  · exact hj _
  · exact hj _
end Go.Proofs.Ytcoiglbkeebccab.Pure
