/- Lists of numbers of the same widths that differ in one number are laid as different bytes: the pure statement of the law FnBitApart. No condition. -/
import Derived.Test.YtfnkaccncmjnaaaPlPutD
import Derived.Test.YtfnkaccncmjnaaaPlPutL
import Derived.Test.YtfnkaccncmjnaaaPlStr
import Derived.Test.YtfnkaccncmjnaaaPlEaOk
import Derived.Test.YtfnkaccncmjnaaaX0
import Derived.Test.YtfnkaccncmjnaaaX30
namespace Go.Proofs.Ytfnkaccncmjnaaa.Pure
open Go Go.RowKit Go.Proofs.Ytfnkaccncmjnaaa.X Go.Proofs.Ytfnkaccncmjnaaa.Pl Go.Proofs.YtfnkaccncmjnaaaW.PrintWords Go.Proofs.YtfnkaccncmjnaaaW.PrintLast Go.Proofs.YtfnkaccncmjnaaaW.PrintMore
theorem tb_set (xs : List S36) (i : Nat) (h : i < xs.length) (v : Int) : tb (xs.set i ⟨v, xs[i].f1⟩) = tb xs := by
  have e1 : xs.set i ⟨v, xs[i].f1⟩ = xs.take i ++ (⟨v, xs[i].f1⟩ : S36) :: xs.drop (i + 1) := List.set_eq_take_append_cons_drop.trans (if_pos h)
  have e2 : xs = xs.take i ++ xs[i] :: xs.drop (i + 1) := by rw [← List.drop_eq_getElem_cons h, List.take_append_drop]
  rw [e1]
  conv => rhs; rw [e2]
  rw [tb_append, tb_append]
  rfl
theorem put_ne (xs : List S36) (i : Nat) (h : i < xs.length) (v : Int) (hx : BitP xs[i].f0 xs[i].f1) (hv : BitP v xs[i].f1) (hne : v ≠ xs[i].f0) : putL (xs.set i ⟨v, xs[i].f1⟩) [] 0 ≠ putL xs [] 0 := by
  intro he
  have e1 : xs.set i ⟨v, xs[i].f1⟩ = xs.take i ++ (⟨v, xs[i].f1⟩ : S36) :: xs.drop (i + 1) := List.set_eq_take_append_cons_drop.trans (if_pos h)
  have e2 : xs = xs.take i ++ xs[i] :: xs.drop (i + 1) := by rw [← List.drop_eq_getElem_cons h, List.take_append_drop]
  have s1 := sum_putL (xs.take i) (⟨v, xs[i].f1⟩ : S36) (xs.drop (i + 1)) inv_nil hv
  have s2 := sum_putL (xs.take i) xs[i] (xs.drop (i + 1)) inv_nil hx
  rw [← e1, he] at s1
  rw [← e2] at s2
  exact hne (s1.symm.trans s2)
theorem FnBitApart : laws_FnBitApart.Pure := by
  intro l m _ hl hb hmm hm hbm
  obtain ⟨xs, hd, hxl⟩ := drawPut_ok l (bytes_wf hb)
  obtain ⟨k, hk⟩ : ∃ k : Nat, 10000 ≤ k := ⟨10000, by omega⟩
  have hrb := res_bytes xs
  have hj (b : Bool) : laws_FnBitApart.j0 (k + 1) l m b = some true := by
    simp only [laws_FnBitApart.j0]
    cases b with
    | true => rfl
    | false =>
      rw [if_neg (by decide), hd k (by omega), Option.bind_some, implPut_ok xs k (by omega), Option.bind_some, specPut_ok xs (by omega) k (by omega), Option.bind_some, eaBytes_self _ hrb, Option.bind_some, if_pos rfl]
      by_cases h0 : ((res xs [] 0).length : Int) = 0
      · rw [if_pos h0, eaOk_ok, Option.bind_some]
      · have hg : PutOk xs 0 := by
          by_cases g : PutOk xs 0
          · exact g
          · exfalso; apply h0; unfold res; rw [if_neg g]; rfl
        have hn : xs ≠ [] := by
          rintro rfl
          apply h0; unfold res; rw [if_pos hg]; rfl
        have hpos : 0 < xs.length := List.length_pos_iff.2 hn
        obtain ⟨i, hi⟩ : ∃ i : Nat, (m.length : Int) % (xs.length : Int) = (i : Int) := Int.eq_ofNat_of_zero_le (Int.emod_nonneg _ (by omega))
        have hil : i < xs.length := by
          have := Int.emod_lt_of_pos (m.length : Int) (show (0 : Int) < (xs.length : Int) by omega)
          omega
        have hp := hg.1 xs[i] (List.getElem_mem hil)
        obtain ⟨b1, b2, n0, n1⟩ := bitP_small hp
        obtain ⟨w, hw⟩ : ∃ w : Nat, xs[i].f1 = (w : Int) := Int.eq_ofNat_of_zero_le (show 0 ≤ xs[i].f1 by omega)
        have hpw := pow_pos' w
        have hsh : shl .i64 1 xs[i].f1 = 2 ^ w := by rw [hw, shl_bit 1 w (Or.inr rfl) (by omega), Int.one_mul]
        rw [if_neg h0, if_neg (show ¬ (xs.length : Int) = 0 by omega), Option.bind_some, if_pos (by simp only [List.length_nil]; omega), Option.bind_some, List.nil_append, hi, rdT hil, hsh, if_pos (show (0 : Int) ≤ (i : Int) by omega), if_pos (show (i : Int) < (xs.length : Int) by omega), if_pos (show 0 ≤ xs[i].f1 by omega), if_neg (show ¬ (2 : Int) ^ w = 0 by omega)]
        have hl3 : (m.length : Int) % 3 < 3 := Int.emod_lt_of_pos _ (by decide)
        have hl0 : 0 ≤ (m.length : Int) % 3 := Int.emod_nonneg _ (by decide)
        rw [if_pos (show (i : Int) < (xs.length : Int) by omega), Int.toNat_natCast, w64 (x := xs[i].f0 + 1) (by omega) (by omega), w64 (x := xs[i].f0 + 1 + (m.length : Int) % 3) (by omega) (by omega)]
        generalize hv : Int.tmod (xs[i].f0 + 1 + (m.length : Int) % 3) (2 ^ w) = v
        have hv0 : 0 ≤ v := by rw [← hv]; exact Int.tmod_nonneg _ (by omega)
        have hv1 : v < 2 ^ w := by rw [← hv]; exact Int.tmod_lt_of_pos _ (by omega)
        have hvp : BitP v xs[i].f1 := ⟨b1, b2, hv0, by rw [hw, Int.toNat_natCast]; exact hv1⟩
        have hsl : (xs.set i ⟨v, xs[i].f1⟩).length = xs.length := List.length_set
        have hg' : PutOk (xs.set i ⟨v, xs[i].f1⟩) 0 := by
          refine ⟨fun x hx => ?_, by rw [tb_set xs i hil]; exact hg.2⟩
          rcases List.mem_or_eq_of_mem_set hx with hx | rfl
          · exact hg.1 x hx
          · exact hvp
        rw [Option.bind_some, implPut_ok _ k (by rw [hsl]; omega), Option.bind_some, eaBytes_ok _ _ (res_bytes _) hrb, Option.bind_some, rdT (show i < (xs.set i ⟨v, xs[i].f1⟩).length by omega), List.getElem_set_self]
        unfold res
        rw [if_pos hg, if_pos hg']
        by_cases e : v = xs[i].f0
        · rw [show (⟨v, xs[i].f1⟩ : S36) = xs[i] by rw [e], List.set_getElem_self]
          simp
        · rw [decide_eq_false (put_ne xs i hil v hp hvp e)]
          simp [e]
  refine ⟨k + 1, ?_⟩
  unfold laws_FnBitApart.f
  split
  · exact hj _
  · exact hj _
end Go.Proofs.Ytfnkaccncmjnaaa.Pure
