/- What the program's and the reference's tests of a picture come to, and the colour at a place: a picture is from 1 to 6 wide and high, with as many colours as places, each colour one. Lists are no longer than memory holds. -/
import Derived.Test.YthnmeogafklhnaaPlPixOk
import Derived.Test.YthnmeogafklhnaaPlPixOkS
import Derived.Test.YthnmeogafklhnaaX0
import Derived.Test.YthnmeogafklhnaaX11
import Derived.Test.YthnmeogafklhnaaX15
import Derived.Test.YthnmeogafklhnaaX32
namespace Go.Proofs.Ythnmeogafklhnaa.Pl
open Go Go.RowKit Go.Proofs.Ythnmeogafklhnaa.X Go.Proofs.YthnmeogafklhnaaW.PrintWords Go.Proofs.YthnmeogafklhnaaW.PrintLast Go.Proofs.YthnmeogafklhnaaW.PrintMore
def GoodP (p : S38) : Prop := PixP p.f0 p.f1 p.f2 p.f3
instance (p : S38) : Decidable (GoodP p) := by unfold GoodP; infer_instance
def RasP (W H : Int) (l : List S38) : Prop := (1 ≤ W ∧ W ≤ 6) ∧ (1 ≤ H ∧ H ≤ 6) ∧ (l.length : Int) = W * H ∧ ∀ p ∈ l, GoodP p
instance (W H : Int) (l : List S38) : Decidable (RasP W H l) := by unfold RasP; infer_instance
theorem rdP {xs : List S38} {i : Nat} (h : i < xs.length) : rd_T38 xs (i : Int) = xs[i] := by
  unfold rd_T38
  rw [Int.toNat_natCast, List.getD_eq_getElem?_getD, List.getElem?_eq_getElem h]; rfl
theorem mulB {W H : Int} (hW : 1 ≤ W ∧ W ≤ 6) (hH : 1 ≤ H ∧ H ≤ 6) : 1 ≤ W * H ∧ W * H ≤ 36 := by
  have h2 : H = 1 ∨ H = 2 ∨ H = 3 ∨ H = 4 ∨ H = 5 ∨ H = 6 := by omega
  rcases h2 with rfl | rfl | rfl | rfl | rfl | rfl <;> omega
theorem RasP.len {W H : Int} {l : List S38} (h : RasP W H l) : 1 ≤ l.length ∧ l.length ≤ 36 := by
  have := mulB h.1 h.2.1
  have := h.2.2.1
  omega
theorem sizeOk_ok (a : Int) : impl_sizeOk.f a = some (decide (1 ≤ a ∧ a ≤ 6)) := by
  unfold impl_sizeOk.f
  by_cases h : a ≥ 1
  · rw [if_pos h]; congr 1; simp only [decide_eq_decide]; omega
  · rw [if_neg h]; congr 1; symm; simp only [decide_eq_false_iff_not]; omega
theorem all_drop {l : List S38} {i : Nat} (h : i < l.length) : (∀ p ∈ l.drop i, GoodP p) ↔ GoodP l[i] ∧ ∀ p ∈ l.drop (i + 1), GoodP p := by
  rw [List.drop_eq_getElem_cons h]; exact List.forall_mem_cons
theorem implRas_l (l : List S38) (hl : l.length ≤ 1099511627776) : ∀ (d i k : Nat), i + d = l.length → d < k → impl_RasOk.l0 k l (l.length : Int) (i : Int) = some (decide (∀ p ∈ l.drop i, GoodP p)) := by
  intro d
  induction d with
  | zero =>
    intro i k hi hk
    obtain ⟨k, rfl⟩ : ∃ m, k = m + 1 := ⟨k - 1, by omega⟩
    simp only [impl_RasOk.l0]
    rw [if_neg (by omega), List.drop_of_length_le (by omega)]; simp
  | succ d ih =>
    intro i k hi hk
    obtain ⟨k, rfl⟩ : ∃ m, k = m + 1 := ⟨k - 1, by omega⟩
    have hil : i < l.length := by omega
    simp only [impl_RasOk.l0]
    rw [if_pos (by omega), if_pos (by omega), if_pos (by omega), rdP hil, implPixOk_ok, Option.bind_some]
    by_cases hp : GoodP l[i]
    · rw [if_pos (show decide (PixP l[i].f0 l[i].f1 l[i].f2 l[i].f3) = true from decide_eq_true hp), w64 (by omega) (by omega)]
      have e := ih (i + 1) k (by omega) (by omega)
      rw [Int.natCast_add] at e
      refine e.trans ?_
      congr 1
      rw [decide_eq_decide, all_drop hil]
      exact ⟨fun h => ⟨hp, h⟩, fun h => h.2⟩
    · rw [if_neg (show ¬ decide (PixP l[i].f0 l[i].f1 l[i].f2 l[i].f3) = true from fun h => hp (of_decide_eq_true h))]
      congr 1; symm
      rw [decide_eq_false_iff_not, all_drop hil]
      exact fun h => hp h.1
theorem specRas_l (W H : Int) (l : List S38) (hl : l.length ≤ 1099511627776) : ∀ (d i k : Nat), i + d = l.length → d < k → spec_RasOk.l0 k (i : Int) W H l = some (decide (∀ p ∈ l.drop i, GoodP p)) := by
  intro d
  induction d with
  | zero =>
    intro i k hi hk
    obtain ⟨k, rfl⟩ : ∃ m, k = m + 1 := ⟨k - 1, by omega⟩
    simp only [spec_RasOk.l0]
    rw [if_neg (by omega), List.drop_of_length_le (by omega)]; simp
  | succ d ih =>
    intro i k hi hk
    obtain ⟨k, rfl⟩ : ∃ m, k = m + 1 := ⟨k - 1, by omega⟩
    have hil : i < l.length := by omega
    simp only [spec_RasOk.l0]
    rw [if_pos (by omega), if_pos (by omega), rdP hil, specPixOk_ok, Option.bind_some]
    by_cases hp : GoodP l[i]
    · rw [if_pos (show decide (PixP l[i].f0 l[i].f1 l[i].f2 l[i].f3) = true from decide_eq_true hp), w64 (by omega) (by omega)]
      have e := ih (i + 1) k (by omega) (by omega)
      rw [Int.natCast_add] at e
      refine e.trans ?_
      congr 1
      rw [decide_eq_decide, all_drop hil]
      exact ⟨fun h => ⟨hp, h⟩, fun h => h.2⟩
    · rw [if_neg (show ¬ decide (PixP l[i].f0 l[i].f1 l[i].f2 l[i].f3) = true from fun h => hp (of_decide_eq_true h))]
      congr 1; symm
      rw [decide_eq_false_iff_not, all_drop hil]
      exact fun h => hp h.1
theorem rasP_no {W H : Int} {l : List S38} (h : ¬ ((1 ≤ W ∧ W ≤ 6) ∧ (1 ≤ H ∧ H ≤ 6) ∧ (l.length : Int) = W * H)) : decide (RasP W H l) = false := decide_eq_false fun g => h ⟨g.1, g.2.1, g.2.2.1⟩
theorem rasP_all {W H : Int} {l : List S38} (hW : 1 ≤ W ∧ W ≤ 6) (hH : 1 ≤ H ∧ H ≤ 6) (hn : (l.length : Int) = W * H) : decide (∀ p ∈ l.drop 0, GoodP p) = decide (RasP W H l) := by
  rw [decide_eq_decide, List.drop_zero]
  exact ⟨fun h => ⟨hW, hH, hn, h⟩, fun h => h.2.2.2⟩
theorem implRasOk_ok (W H : Int) (l : List S38) (hl : l.length ≤ 1099511627776) (k : Nat) (hk : l.length + 2 ≤ k) : impl_RasOk.f k W H l = some (decide (RasP W H l)) := by
  have hj (b : Bool) (k : Nat) (hk : l.length + 2 ≤ k) : impl_RasOk.j0 k b W H l = if b = true then some false else some (decide (∀ p ∈ l.drop 0, GoodP p)) := by
    obtain ⟨k, rfl⟩ : ∃ m, k = m + 1 := ⟨k - 1, by omega⟩
    simp only [impl_RasOk.j0]
    rw [show (0 : Int) = ((0 : Nat) : Int) from rfl, implRas_l l hl l.length 0 k (by omega) (by omega)]
  unfold impl_RasOk.f
  rw [sizeOk_ok, Option.bind_some]
  by_cases hW : 1 ≤ W ∧ W ≤ 6
  · rw [if_pos (decide_eq_true hW), sizeOk_ok, Option.bind_some]
    by_cases hH : 1 ≤ H ∧ H ≤ 6
    · have hm := mulB hW hH
      rw [if_pos (decide_eq_true hH), hj _ k hk, w64 (by omega) (by omega)]
      by_cases hn : (l.length : Int) = W * H
      · rw [if_neg (by simpa using hn), rasP_all hW hH hn]
      · rw [if_pos (by simpa using hn), rasP_no (fun h => hn h.2.2)]
    · rw [if_neg (show ¬ decide (1 ≤ H ∧ H ≤ 6) = true from fun h => hH (of_decide_eq_true h)), hj _ k hk, if_pos rfl, rasP_no (fun h => hH h.2.1)]
  · rw [if_neg (show ¬ decide (1 ≤ W ∧ W ≤ 6) = true from fun h => hW (of_decide_eq_true h)), hj _ k hk, if_pos rfl, rasP_no (fun h => hW h.1)]
theorem specRasOk_ok (W H : Int) (l : List S38) (hl : l.length ≤ 1099511627776) (k : Nat) (hk : l.length + 2 ≤ k) : spec_RasOk.f k W H l = some (decide (RasP W H l)) := by
  have hj (b : Bool) (k : Nat) (hk : l.length + 2 ≤ k) : spec_RasOk.j0 k b W H l = if b = true then some false else some (decide (∀ p ∈ l.drop 0, GoodP p)) := by
    obtain ⟨k, rfl⟩ : ∃ m, k = m + 1 := ⟨k - 1, by omega⟩
    simp only [spec_RasOk.j0]
    rw [show (0 : Int) = ((0 : Nat) : Int) from rfl, specRas_l W H l hl l.length 0 k (by omega) (by omega)]
  unfold spec_RasOk.f
  rw [l1In_ok, Option.bind_some]
  by_cases hW : 1 ≤ W ∧ W ≤ 6
  · rw [if_pos (decide_eq_true hW), l1In_ok, Option.bind_some]
    by_cases hH : 1 ≤ H ∧ H ≤ 6
    · have hm := mulB hW hH
      rw [if_pos (decide_eq_true hH), hj _ k hk, w64 (by omega) (by omega)]
      by_cases hn : (l.length : Int) = W * H
      · rw [if_neg (by simpa using hn), rasP_all hW hH hn]
      · rw [if_pos (by simpa using hn), rasP_no (fun h => hn h.2.2)]
    · rw [if_neg (show ¬ decide (1 ≤ H ∧ H ≤ 6) = true from fun h => hH (of_decide_eq_true h)), hj _ k hk, if_pos rfl, rasP_no (fun h => hH h.2.1)]
  · rw [if_neg (show ¬ decide (1 ≤ W ∧ W ≤ 6) = true from fun h => hW (of_decide_eq_true h)), hj _ k hk, if_pos rfl, rasP_no (fun h => hW h.1)]
end Go.Proofs.Ythnmeogafklhnaa.Pl
