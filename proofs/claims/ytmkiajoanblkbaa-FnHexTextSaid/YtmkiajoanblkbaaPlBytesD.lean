/- What is drawn as bytes is bytes, no more than was asked for. The code is bytes, no more than 2000. -/
import Derived.Test.YtmkiajoanblkbaaPlPick
import Derived.Test.YtmkiajoanblkbaaX0
import Derived.Test.YtmkiajoanblkbaaX42
namespace Go.Proofs.Ytmkiajoanblkbaa.Pl
open Go Go.RowKit Go.Proofs.Ytmkiajoanblkbaa.X Go.Proofs.YtmkiajoanblkbaaW.PrintWords Go.Proofs.YtmkiajoanblkbaaW.PrintLast Go.Proofs.YtmkiajoanblkbaaW.PrintMore
theorem bytes_l (s : List Int) (hs : Bytes s) (hl : s.length ≤ 2000) : ∀ (d : Nat) (x : List Int) (p : Int), Bytes x → x.length + d ≤ 100000 → d ≤ 10000 → 0 ≤ p → p + 3 * d ≤ 200000 →
    ∃ y q, (∀ k, d + 1 ≤ k → spec_l20Bytes.l0 k x (d : Int) s p = some (y, q)) ∧ Bytes y ∧ y.length = x.length + d ∧ p ≤ q ∧ q = p + 3 * d := by
  intro d
  induction d with
  | zero =>
    intro x p hx hxl hd h0 h1
    refine ⟨x, p, fun k hk => ?_, hx, by omega, by omega, by omega⟩
    obtain ⟨k, rfl⟩ : ∃ m, k = m + 1 := ⟨k - 1, by omega⟩
    simp only [spec_l20Bytes.l0]
    rw [if_neg (by omega)]
  | succ d ih =>
    intro x p hx hxl hd h0 h1
    obtain ⟨a, ha, ha0, ha1, _⟩ := pick_ok s hs hl p 256 h0 (by omega)
    obtain ⟨b, hb, hb0, hb1, _⟩ := pick_ok s hs hl (p + 1) 4 (by omega) (by omega)
    obtain ⟨c, hc, hc0, hc1, _⟩ := pick_ok s hs hl (p + 1 + 1) 3 (by omega) (by omega)
    have ha1 := ha1 (by omega)
    have hb1 := hb1 (by omega)
    have hc1 := hc1 (by omega)
    obtain ⟨y, q, hy, hyb, hyl, hq0, hq1⟩ := ih (x ++ [(rd [a, b, 255] c) % 256]) (p + 1 + 1 + 1) (bytes_snoc hx (byte_mod _)) (by rw [List.length_append, List.length_singleton]; omega) (by omega) (by omega) (by omega)
    refine ⟨y, q, fun k hk => ?_, hyb, by rw [hyl, List.length_append, List.length_singleton]; omega, by omega, by omega⟩
    obtain ⟨k, rfl⟩ : ∃ m, k = m + 1 := ⟨k - 1, by omega⟩
    simp only [spec_l20Bytes.l0]
    rw [if_pos (by omega), ha k (by omega)]
    simp only [Option.bind_some]
    rw [hb k (by omega)]
    simp only [Option.bind_some]
    rw [hc k (by omega)]
    simp only [Option.bind_some]
    rw [if_pos hc0, if_pos (by simpa using hc1), if_pos (by omega), w64 (by omega) (by omega), show (((d + 1 : Nat) : Int) - 1) = (d : Int) by omega]
    exact hy k (by omega)
theorem bytes_ok (s : List Int) (hs : Bytes s) (hl : s.length ≤ 2000) (p n : Int) (h0 : 0 ≤ p) (h1 : p ≤ 1000) (hn0 : 0 ≤ n) (hn : n ≤ 1000) :
    ∃ y q, (∀ k, n.toNat + 2 ≤ k → spec_l20Bytes.f k s p n = some (y, q)) ∧ Bytes y ∧ (y.length : Int) ≤ n ∧ p ≤ q ∧ q ≤ p + 1 + 3 * n := by
  obtain ⟨r, hr, hr0, hr1, _⟩ := pick_ok s hs hl p (n + 1) h0 (by omega)
  have hr1 := hr1 (by omega)
  obtain ⟨m, rfl⟩ := Int.eq_ofNat_of_zero_le hr0
  obtain ⟨y, q, hy, hyb, hyl, hq0, hq1⟩ := bytes_l s hs hl m [] (p + 1) bytes_nil (by simp; omega) (by omega) (by omega) (by omega)
  refine ⟨y, q, fun k hk => ?_, hyb, by rw [hyl]; simp; omega, by omega, by omega⟩
  unfold spec_l20Bytes.f
  rw [w64 (by omega) (by omega), hr k (by omega)]
  simp only [Option.bind_some]
  exact hy k (by omega)
end Go.Proofs.Ytmkiajoanblkbaa.Pl
