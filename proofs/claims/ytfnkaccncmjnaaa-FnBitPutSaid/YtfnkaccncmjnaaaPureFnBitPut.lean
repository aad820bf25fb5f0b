/- The program's BitPut is the reference's, and what it laid is read again, whatever is drawn: the pure statement of the law FnBitPut. No condition. -/
import Derived.Test.YtfnkaccncmjnaaaPlPutD
import Derived.Test.YtfnkaccncmjnaaaPlPutL
import Derived.Test.YtfnkaccncmjnaaaPlBitGet
import Derived.Test.YtfnkaccncmjnaaaPlStr
import Derived.Test.YtfnkaccncmjnaaaPlEaOk
import Derived.Test.YtfnkaccncmjnaaaX0
import Derived.Test.YtfnkaccncmjnaaaX29
namespace Go.Proofs.Ytfnkaccncmjnaaa.Pure
open Go Go.RowKit Go.Proofs.Ytfnkaccncmjnaaa.X Go.Proofs.Ytfnkaccncmjnaaa.Pl Go.Proofs.YtfnkaccncmjnaaaW.PrintWords Go.Proofs.YtfnkaccncmjnaaaW.PrintLast Go.Proofs.YtfnkaccncmjnaaaW.PrintMore
theorem tb_take {xs : List S36} {i : Nat} (h : i < xs.length) : tb (xs.take (i + 1)) = tb (xs.take i) + xs[i].f1.toNat := by
  rw [take_snoc xs i h, tb_append]; simp [tb]
theorem tb_le (xs : List S36) (i : Nat) : tb (xs.take i) ≤ tb xs := by
  have := tb_append (xs.take i) (xs.drop i)
  rw [List.take_append_drop] at this; omega
theorem back_l (xs : List S36) (hx : xs.length ≤ 400) (hg : PutOk xs 0) : ∀ (d i k : Nat), i + d = xs.length → d + 30 < k → laws_FnBitPut.l1 k xs (putL xs [] 0) ((tb xs : Nat) : Int) ((tb (xs.take i) : Nat) : Int) (i : Int) = some true := by
  have hv := inv_res xs hg
  have hlen := hv.len
  have hT := hg.2
  intro d
  induction d with
  | zero =>
    intro i k hi hk
    obtain ⟨k, rfl⟩ : ∃ m, k = m + 1 := ⟨k - 1, by omega⟩
    simp only [laws_FnBitPut.l1]
    rw [if_neg (by omega), w64 (x := 8 * _) (by omega) (by omega), implGet_ok _ hv.byt (by omega) _ _ (by omega) k (by omega), Option.bind_some]
    rw [w64 (x := _ + 7) (by omega) (by omega), Int.tdiv_eq_ediv_of_nonneg (by omega), w64 (by omega) (by omega), if_pos (by omega)]
    unfold getR
    rw [if_neg (show ¬ GetP _ _ _ from fun h => by have := h.2.2.2; omega), if_neg (by simp), eaOk_ok, Option.bind_some]
  | succ d ih =>
    intro i k hi hk
    obtain ⟨k, rfl⟩ : ∃ m, k = m + 1 := ⟨k - 1, by omega⟩
    have hil : i < xs.length := by omega
    have hp := hg.1 xs[i] (List.getElem_mem hil)
    obtain ⟨b1, b2, n0, n1⟩ := bitP_small hp
    have ht := tb_take hil
    have hle := tb_le xs (i + 1)
    simp only [laws_FnBitPut.l1]
    rw [if_pos (by omega), if_pos (by omega), rdT hil, implGet_ok _ hv.byt (by omega) _ _ (by omega) k (by omega), Option.bind_some]
    unfold getR
    rw [if_pos (show GetP (putL xs [] 0) ((tb (xs.take i) : Nat) : Int) xs[i].f1 from ⟨by omega, by omega, by omega, by omega⟩)]
    have hs := sum_putL (xs.take i) xs[i] (xs.drop (i + 1)) inv_nil hp
    rw [← drop_cons hil, List.take_append_drop, Nat.zero_add] at hs
    rw [if_pos rfl, Int.toNat_natCast, hs, if_pos rfl, w64 (by omega) (by omega), w64 (by omega) (by omega)]
    have e := ih (i + 1) k (by omega) (by omega)
    rw [ht] at e
    rw [show ((tb (xs.take i) : Nat) : Int) + xs[i].f1 = ((tb (xs.take i) + xs[i].f1.toNat : Nat) : Int) by omega]
    exact e
theorem all_l (xs : List S36) (hx : xs.length ≤ 400) : ∀ (d i k : Nat), i + d = xs.length → 2 * d + xs.length + 60 < k → (∀ x ∈ xs.take i, BitP x.f0 x.f1) → tb (xs.take i) ≤ 12 * i → laws_FnBitPut.l0 k xs (res xs [] 0) ((tb (xs.take i) : Nat) : Int) (i : Int) = some true := by
  intro d
  induction d with
  | zero =>
    intro i k hi hk hall hti
    obtain ⟨k, rfl⟩ : ∃ m, k = m + 1 := ⟨k - 1, by omega⟩
    rw [List.take_of_length_le (by omega)] at hall hti ⊢
    simp only [laws_FnBitPut.l0]
    rw [if_neg (by omega), w64 (x := _ + 7) (by omega) (by omega), Int.tdiv_eq_ediv_of_nonneg (by omega), w64 (by omega) (by omega)]
    by_cases hT : tb xs ≤ 3200
    · have hg : PutOk xs 0 := ⟨hall, by omega⟩
      rw [if_neg (by omega)]
      unfold res
      rw [if_pos hg]
      exact back_l xs hx hg xs.length 0 k (by omega) (by omega)
    · rw [if_pos (by omega)]
      unfold res
      rw [if_neg (show ¬ PutOk xs 0 from fun h => hT (by have := h.2; omega)), if_pos (by simp), eaOk_ok, Option.bind_some]
  | succ d ih =>
    intro i k hi hk hall hti
    obtain ⟨k, rfl⟩ : ∃ m, k = m + 1 := ⟨k - 1, by omega⟩
    have hil : i < xs.length := by omega
    simp only [laws_FnBitPut.l0]
    rw [if_pos (by omega), if_pos (by omega), rdT hil, specBitOk_ok, Option.bind_some]
    by_cases hp : BitP xs[i].f0 xs[i].f1
    · obtain ⟨b1, b2, n0, n1⟩ := bitP_small hp
      have ht := tb_take hil
      rw [decide_eq_true hp, if_pos rfl, w64 (by omega) (by omega), w64 (by omega) (by omega)]
      have e := ih (i + 1) k (by omega) (by omega) (fun x hx => by
        rw [take_snoc xs i hil] at hx
        rcases List.mem_append.1 hx with hx | hx
        · exact hall x hx
        · rw [List.mem_singleton] at hx; subst hx; exact hp) (by omega)
      rw [ht] at e
      rw [show ((tb (xs.take i) : Nat) : Int) + xs[i].f1 = ((tb (xs.take i) + xs[i].f1.toNat : Nat) : Int) by omega]
      exact e
    · rw [decide_eq_false hp, if_neg (by decide)]
      unfold res
      rw [if_neg (show ¬ PutOk xs 0 from fun h => hp (h.1 _ (List.getElem_mem hil))), if_pos (by simp), eaOk_ok, Option.bind_some]
theorem FnBitPut : laws_FnBitPut.Pure := by
  intro l _ hl hb
  obtain ⟨xs, hd, hx⟩ := drawPut_ok l (bytes_wf hb)
  obtain ⟨k, hk⟩ : ∃ k : Nat, 10000 ≤ k := ⟨10000, by omega⟩
  refine ⟨k, ?_⟩
  unfold laws_FnBitPut.f
  by_cases h : (l.length : Int) > 1048576
  · rw [if_pos h]
  rw [if_neg h, hd k (by omega), Option.bind_some, implPut_ok xs k (by omega), Option.bind_some, specPut_ok xs (by omega) k (by omega), Option.bind_some, eaBytes_self _ (res_bytes xs), Option.bind_some, if_pos rfl]
  exact all_l xs (by omega) xs.length 0 k (by omega) (by omega) (fun _ h => by simp at h) (by simp [tb])
end Go.Proofs.Ytfnkaccncmjnaaa.Pure
