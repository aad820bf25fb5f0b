/- What is folded is no longer, and cannot be folded more: the pure statement of the law FnFoldShort. No condition. -/
import Derived.Test.YtjkaalcocgioaaaPlDrawFold
import Derived.Test.YtjkaalcocgioaaaPlFold
import Derived.Test.YtjkaalcocgioaaaPlEaOk
import Derived.Test.YtjkaalcocgioaaaX0
import Derived.Test.YtjkaalcocgioaaaX34
namespace Go.Proofs.Ytjkaalcocgioaaa.Pure
open Go Go.RowKit Go.Proofs.Ytjkaalcocgioaaa.X Go.Proofs.Ytjkaalcocgioaaa.Pl Go.Proofs.YtjkaalcocgioaaaW.PrintWords Go.Proofs.YtjkaalcocgioaaaW.PrintLast Go.Proofs.YtjkaalcocgioaaaW.PrintMore
theorem short_l1 {L : List S25} (h : AllO L) : ∀ (d i k : Nat), i + d = (foldR L).length → d + 50 < k → laws_FnFoldShort.l1 k L (foldR L) (i : Int) = some true := by
  have hall := foldR_all h
  have hle := foldR_le h
  have h5 := foldR_len L
  have htw := foldR_twice h
  have hg := hall.2
  intro d
  induction d with
  | zero =>
    intro i k hi hk
    obtain ⟨k, rfl⟩ : ∃ m, k = m + 1 := ⟨k - 1, by omega⟩
    simp only [laws_FnFoldShort.l1]
    rw [if_neg (by omega), if_pos (by omega), implOpsFold_ok _ (by omega) k (by omega), Option.bind_some, htw, eaOps_self _ (by omega) k (by omega), Option.bind_some, if_pos rfl, eaOk_ok, Option.bind_some]
  | succ d ih =>
    intro i k hi hk
    obtain ⟨k, rfl⟩ : ∃ m, k = m + 1 := ⟨k - 1, by omega⟩
    have hil : i < (foldR L).length := by omega
    have e := ih (i + 1) k (by omega) (by omega)
    rw [Int.natCast_add] at e
    simp only [laws_FnFoldShort.l1]
    rw [if_pos (by omega), if_pos (by omega), rdO hil, implOpOk_ok _ _ _ _ _ k (by omega), Option.bind_some, if_pos (show decide (OpP (foldR L)[i].f0 (foldR L)[i].f1 (foldR L)[i].f2 (foldR L)[i].f3 (foldR L)[i].f4) = true from decide_eq_true (hg _ (List.getElem_mem hil))), w64 (by omega) (by omega)]
    exact e
theorem short_l0 (L : List S25) (hL : L.length ≤ 6) : ∀ (d i k : Nat), i + d = L.length → (∀ o ∈ L.take i, GoodO o) → d + 100 < k → laws_FnFoldShort.l0 k L (foldR L) (i : Int) = some true := by
  have h5 := foldR_len L
  intro d
  induction d with
  | zero =>
    intro i k hi hg hk
    obtain ⟨k, rfl⟩ : ∃ m, k = m + 1 := ⟨k - 1, by omega⟩
    rw [List.take_of_length_le (by omega)] at hg
    simp only [laws_FnFoldShort.l0]
    rw [if_neg (by omega)]
    by_cases h : (L.length : Int) > 5
    · have he : foldR L = [] := by
        unfold foldR
        rw [if_neg (fun g => by have := g.1; omega)]
      rw [if_pos h, he, if_pos (by rfl), eaOk_ok, Option.bind_some]
    · rw [if_neg h]
      exact short_l1 (And.intro (by omega) hg) (foldR L).length 0 k (Nat.zero_add _) (by omega)
  | succ d ih =>
    intro i k hi hg hk
    obtain ⟨k, rfl⟩ : ∃ m, k = m + 1 := ⟨k - 1, by omega⟩
    have hil : i < L.length := by omega
    simp only [laws_FnFoldShort.l0]
    rw [if_pos (by omega), if_pos (by omega), rdO hil, specOpOk_ok, Option.bind_some]
    by_cases hp : GoodO L[i]
    · have e := ih (i + 1) k (by omega) (fun o ho => by
        rw [List.take_succ_eq_append_getElem hil] at ho
        rcases List.mem_append.1 ho with ho | ho
        · exact hg o ho
        · rw [List.mem_singleton] at ho; rw [ho]; exact hp) (by omega)
      rw [Int.natCast_add] at e
      rw [if_pos (show decide (OpP L[i].f0 L[i].f1 L[i].f2 L[i].f3 L[i].f4) = true from decide_eq_true hp), w64 (by omega) (by omega)]
      exact e
    · have he : foldR L = [] := by
        unfold foldR
        rw [if_neg (fun g => hp (g.2 _ (List.getElem_mem hil)))]
      rw [if_neg (show ¬ decide (OpP L[i].f0 L[i].f1 L[i].f2 L[i].f3 L[i].f4) = true from fun g => hp (of_decide_eq_true g)), he, if_pos (by rfl), eaOk_ok, Option.bind_some]
theorem FnFoldShort : laws_FnFoldShort.Pure := by
  intro l _ _ hb
  obtain ⟨k, hk⟩ : ∃ k : Nat, 1000 ≤ k := ⟨1000, by omega⟩
  refine ⟨k, ?_⟩
  unfold laws_FnFoldShort.f
  by_cases h : (l.length : Int) > 1048576
  · rw [if_pos h]
  obtain ⟨L, hL, hl⟩ := drawFold_ok l (bytes_wf hb)
  have h5 := foldR_len L
  rw [if_neg h, hL k (by omega), Option.bind_some, implOpsFold_ok L (by omega) k (by omega), Option.bind_some, specOpsFold_ok L (by omega) k (by omega), Option.bind_some, eaOps_self _ (by omega) k (by omega), Option.bind_some, if_pos rfl]
  exact short_l0 L hl L.length 0 k (Nat.zero_add _) (fun o ho => by cases ho) (by omega)
end Go.Proofs.Ytjkaalcocgioaaa.Pure
