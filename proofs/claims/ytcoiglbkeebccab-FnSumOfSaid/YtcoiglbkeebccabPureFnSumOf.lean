/- The sum of bytes grows as it ought, and one changed byte changes it, whatever is drawn: the pure statement of the law FnSumOf. No condition. -/
import Derived.Test.YtcoiglbkeebccabPlSumD
import Derived.Test.YtcoiglbkeebccabX0
import Derived.Test.YtcoiglbkeebccabX6
namespace Go.Proofs.Ytcoiglbkeebccab.Pure
open Go Go.RowKit Go.Proofs.Ytcoiglbkeebccab.X Go.Proofs.Ytcoiglbkeebccab.Pl Go.Proofs.YtcoiglbkeebccabW.PrintWords Go.Proofs.YtcoiglbkeebccabW.PrintLast Go.Proofs.YtcoiglbkeebccabW.PrintMore
theorem tot_set : ∀ (l : List Int) (i : Nat) (h : i < l.length) (x : Int), tot (l.set i x) = tot l + x - l[i]
  | y :: l, 0, _, x => by simp only [List.set_cons_zero, tot, List.getElem_cons_zero]; omega
  | y :: l, i + 1, h, x => by
    have := tot_set l i (by simpa using h) x
    simp only [List.set_cons_succ, tot, List.getElem_cons_succ, this]; omega
theorem xor_byte (a b : Int) (ha : Byte a) (hb0 : 1 ≤ b) (hb1 : b ≤ 255) : Byte (Go.bits .xor .u8 a b) ∧ Go.bits .xor .u8 a b ≠ a := by
  obtain ⟨x, rfl⟩ := Int.eq_ofNat_of_zero_le ha.1
  obtain ⟨y, rfl⟩ := Int.eq_ofNat_of_zero_le (show 0 ≤ b by omega)
  have hx : x < 2 ^ 8 := by have := ha.2; omega
  have hy : y < 2 ^ 8 := by omega
  have hxy : x ^^^ y < 2 ^ 8 := Nat.xor_lt_two_pow hx hy
  have e : Go.bits .xor .u8 (x : Int) (y : Int) = IntKind.u8.wrap ((x ^^^ y : Nat) : Int) := by
    simp only [Go.bits, BitVec.ofInt_natCast, BitVec.toNat_xor, BitVec.toNat_ofNat]
    rw [show IntKind.bits .u8 = 8 from rfl, Nat.mod_eq_of_lt hx, Nat.mod_eq_of_lt hy]
  have e2 : IntKind.u8.wrap ((x ^^^ y : Nat) : Int) = ((x ^^^ y : Nat) : Int) := by
    unfold IntKind.wrap
    simp only [IntKind.signed, IntKind.bits]
    simp
    omega
  rw [e, e2]
  refine ⟨⟨by omega, by omega⟩, fun h => ?_⟩
  have h' : x ^^^ y = x := by omega
  have : y = 0 := by
    have h2 := congrArg (fun z => x ^^^ z) h'
    simp only [← Nat.xor_assoc, Nat.xor_self, Nat.zero_xor] at h2
    exact h2
  omega
theorem sumOf_grow (s : List Int) (z : Int) (h0 : 0 ≤ z) (h1 : z ≤ 255) : sumR (s ++ [z]) = wrap64 (wrap64 (Int.tmod (wrap64 (wrap64 (Int.tdiv (sumR s) 65536) + Int.tmod (wrap64 (Int.tmod (sumR s) 65536 + z)) 65521)) 65521 * 65536) + Int.tmod (wrap64 (Int.tmod (sumR s) 65536 + z)) 65521) := by
  obtain ⟨e1, e2⟩ := sumR_hi s
  have a1 := sA_in s
  have a2 := sB_in s
  rw [e1, e2, w64 (x := sB s) (by omega) (by omega), w64 (x := sA s + z) (by omega) (by omega), Int.tmod_eq_emod_of_nonneg (a := sA s + z) (by omega), w64 (x := sB s + (sA s + z) % 65521) (by omega) (by omega), Int.tmod_eq_emod_of_nonneg (by omega), w64 (x := _ % 65521 * 65536) (by omega) (by omega), w64 (by omega) (by omega)]
  unfold sumR
  rw [sB_snoc, sA_snoc]
theorem sumOf_change (s : List Int) (hs : Bytes s) (i : Nat) (h : i < s.length) (b : Int) (hb0 : 1 ≤ b) (hb1 : b ≤ 255) : sumR (s.set i (Go.bits .xor .u8 (rd s (i : Int)) b)) ≠ sumR s := by
  have hx := rd_byte hs (i : Int)
  obtain ⟨⟨h0, h1⟩, hne⟩ := xor_byte _ b hx hb0 hb1
  intro e
  have e2 : sA (s.set i (Go.bits .xor .u8 (rd s (i : Int)) b)) = sA s := by
    rw [← (sumR_hi _).2, e, (sumR_hi s).2]
  unfold sA at e2
  rw [tot_set s i h, ← rd_lt h] at e2
  have := hx.1
  have := hx.2
  omega
theorem FnSumOf : laws_FnSumOf.Pure := by
  intro l _ hl hb
  obtain ⟨s, hd, hs, hsl⟩ := drawSum_ok l (bytes_wf hb)
  obtain ⟨k, hk⟩ : ∃ k : Nat, 2000 ≤ k := ⟨2000, by omega⟩
  refine ⟨k + 1 + 1, ?_⟩
  unfold laws_FnSumOf.f
  by_cases h : (l.length : Int) > 1048576
  · rw [if_pos h]
  rw [if_neg h, hd (k + 1 + 1) (by omega), Option.bind_some, implSum_ok s (by omega) hs (k + 1 + 1) (by omega), Option.bind_some, specSum_ok s (by omega) hs (k + 1 + 1) (by omega), Option.bind_some, if_pos rfl, implSum_ok [] (by simp) bytes_nil (k + 1 + 1) (by simp), Option.bind_some]
  have e1 : sumR [] = 1 := by decide
  have hz : Byte ((l.length : Int) % 256) := byte_mod _
  simp only [laws_FnSumOf.j0]
  rw [e1, if_neg (by decide), Option.bind_some, if_pos (by simp only [List.length_nil]; omega), Option.bind_some, if_pos (by simp only [List.length_append, List.length_nil]; omega), List.nil_append, implSum_ok (s ++ [(l.length : Int) % 256]) (by rw [List.length_append, List.length_singleton]; omega) (bytes_snoc hs hz) (k + 1) (by rw [List.length_append, List.length_singleton]; omega), Option.bind_some, if_pos (sumOf_grow s _ hz.1 hz.2)]
  by_cases h0 : (s.length : Int) = 0
  · rw [if_pos h0]
  have hi : 0 ≤ (l.length : Int) % (s.length : Int) ∧ (l.length : Int) % (s.length : Int) < (s.length : Int) := ⟨Int.emod_nonneg _ h0, Int.emod_lt_of_pos _ (by omega)⟩
  rw [if_neg h0, Option.bind_some, if_pos (by simp only [List.length_nil]; omega), List.nil_append, Option.bind_some, if_neg h0, if_pos hi.1, if_pos hi.2]
  obtain ⟨i, hii⟩ := Int.eq_ofNat_of_zero_le hi.1
  have hc := byte_mod 0
  have hb0 : 1 ≤ 1 + (l.length : Int) % 255 ∧ 1 + (l.length : Int) % 255 ≤ 255 := by omega
  have hne := sumOf_change s hs i (by omega) _ hb0.1 hb0.2
  rw [← hii] at hne
  have hx := (xor_byte (rd s ((l.length : Int) % (s.length : Int))) _ (rd_byte hs _) hb0.1 hb0.2).1
  rw [implSum_ok _ (by rw [List.length_set]; omega) (bytes_set hs _ hx) (k + 1) (by rw [List.length_set]; omega), Option.bind_some, hii, Int.toNat_natCast]
  rw [hii] at hne
  rw [bne_iff_ne.mpr hne]
end Go.Proofs.Ytcoiglbkeebccab.Pure
