/- What is packed is packed one way, whatever is drawn: the pure statement of the law FnPakApart. No condition. -/
import Derived.Test.YtfnkaccncmjnaaaPlPakA
import Derived.Test.YtfnkaccncmjnaaaX0
import Derived.Test.YtfnkaccncmjnaaaX58
namespace Go.Proofs.Ytfnkaccncmjnaaa.Pure
open Go Go.RowKit Go.Proofs.Ytfnkaccncmjnaaa.X Go.Proofs.Ytfnkaccncmjnaaa.Pl Go.Proofs.YtfnkaccncmjnaaaW.PrintWords Go.Proofs.YtfnkaccncmjnaaaW.PrintLast Go.Proofs.YtfnkaccncmjnaaaW.PrintMore
theorem put_inj {a b : List Int} (ha : Bytes a) (hb : Bytes b) (h1 : a.length ≤ 200) (h2 : b.length ≤ 200) : pkPutR a = pkPutR b ↔ a = b := by
  constructor
  · intro h
    have e1 := back_ok a ha h1
    rw [h, back_ok b hb h2] at e1
    injection e1 with e1 _
    exact e1.symm
  · rintro rfl; rfl
theorem apart_j1 (a b : List Int) (ha : Bytes a) (hb : Bytes b) (k : Nat) (hk : 7000 ≤ k) (c : Bool) (h : c = false → a.length ≤ 200 ∧ b.length ≤ 200) : laws_FnPakApart.j1 (k + 1) a b (pkPutR a) c = some true := by
  simp only [laws_FnPakApart.j1]
  cases c with
  | true => rw [if_pos rfl, eaOk_ok, Option.bind_some]
  | false =>
    obtain ⟨h1, h2⟩ := h rfl
    have hp := pkPutR_bytes a
    have hq := pkPutR_bytes b
    rw [if_neg (by decide), implPakGet_ok _ hp (by have := pkPutR_len a; omega) k (by omega), Option.bind_some, implPakPut_ok b hb k (by omega), Option.bind_some, eaBytes_ok _ _ hp hq, Option.bind_some, eaBytes_ok a b ha hb, Option.bind_some, if_pos (beq_iff_eq.mpr (decide_eq_decide.mpr (put_inj ha hb h1 h2))), back_ok a ha h1, if_pos rfl]
    dsimp only
    rw [implPakPut_ok a ha k (by omega), Option.bind_some, eaBytes_self _ hp, Option.bind_some]
theorem FnPakApart : laws_FnPakApart.Pure := by
  intro l m _ _ hw _ _ hv
  obtain ⟨a, hda, ha, _⟩ := drawPakPut_ok l (bytes_wf hw)
  obtain ⟨b, hdb, hb, _⟩ := drawPakPut_ok m (bytes_wf hv)
  obtain ⟨k, hk⟩ : ∃ k : Nat, 7000 ≤ k := ⟨7000, Nat.le_refl _⟩
  have hp := pkPutR_bytes a
  have hj (c : Bool) : laws_FnPakApart.j0 (k + 1 + 1) l m c = some true := by
    simp only [laws_FnPakApart.j0]
    cases c with
    | true => rw [if_pos rfl]
    | false =>
      rw [if_neg (by decide), hda (k + 1) (by omega), Option.bind_some, hdb (k + 1) (by omega), Option.bind_some, implPakPut_ok a ha (k + 1) (by omega), Option.bind_some, specPakPut_ok a ha (k + 1) (by omega), Option.bind_some, eaBytes_self _ hp, Option.bind_some, if_pos rfl]
      by_cases h2 : (a.length : Int) > 200
      · rw [if_pos h2]
        exact apart_j1 a b ha hb k hk true (fun e => by cases e)
      · rw [if_neg h2]
        exact apart_j1 a b ha hb k hk _ (fun e => ⟨by omega, by have := of_decide_eq_false e; omega⟩)
  refine ⟨k + 1 + 1, ?_⟩
  unfold laws_FnPakApart.f
  by_cases h : (l.length : Int) > 1048576
  · rw [if_pos h]; exact hj true
  · rw [if_neg h]; exact hj _
end Go.Proofs.Ytfnkaccncmjnaaa.Pure
