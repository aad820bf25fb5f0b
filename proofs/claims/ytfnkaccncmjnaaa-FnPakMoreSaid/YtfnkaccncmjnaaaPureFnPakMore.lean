/- What is packed once more is unpacked twice, whatever is drawn: the pure statement of the law FnPakMore. No condition. -/
import Derived.Test.YtfnkaccncmjnaaaPlPakA
import Derived.Test.YtfnkaccncmjnaaaX0
import Derived.Test.YtfnkaccncmjnaaaX59
namespace Go.Proofs.Ytfnkaccncmjnaaa.Pure
open Go Go.RowKit Go.Proofs.Ytfnkaccncmjnaaa.X Go.Proofs.Ytfnkaccncmjnaaa.Pl Go.Proofs.YtfnkaccncmjnaaaW.PrintWords Go.Proofs.YtfnkaccncmjnaaaW.PrintLast Go.Proofs.YtfnkaccncmjnaaaW.PrintMore
theorem more_j (y : List Int) (hb : Bytes y) (k : Nat) (hk : 7000 ≤ k) (b : Bool) (h : b = false → y.length ≤ 200 ∧ (pkPutR y).length ≤ 200) : laws_FnPakMore.j0 (k + 1) y (pkPutR y) b = some true := by
  simp only [laws_FnPakMore.j0]
  cases b with
  | true => rw [if_pos rfl, eaOk_ok, Option.bind_some]
  | false =>
    obtain ⟨h1, h2⟩ := h rfl
    have hp := pkPutR_bytes y
    rw [if_neg (by decide), implPakPut_ok _ hp k (by omega), Option.bind_some, implPakGet_ok _ (pkPutR_bytes _) (by have := pkPutR_len (pkPutR y); omega) k (by omega), Option.bind_some, back_ok _ hp h2]
    dsimp only
    rw [implPakGet_ok _ hp (by omega) k (by omega), Option.bind_some, back_ok y hb h1, if_pos rfl, if_pos rfl, eaBytes_self y hb, Option.bind_some, if_pos rfl, eaBytes_self _ hp, Option.bind_some]
theorem FnPakMore : laws_FnPakMore.Pure := by
  intro l _ _ hw
  by_cases h : (l.length : Int) > 1048576
  · refine ⟨0, ?_⟩
    unfold laws_FnPakMore.f
    rw [if_pos h]
  · obtain ⟨y, hy, hb, _⟩ := drawPakPut_ok l (bytes_wf hw)
    obtain ⟨k, hk⟩ : ∃ k : Nat, 7000 ≤ k := ⟨7000, Nat.le_refl _⟩
    have hp := pkPutR_bytes y
    refine ⟨k + 1, ?_⟩
    unfold laws_FnPakMore.f
    rw [if_neg h, hy (k + 1) (by omega), Option.bind_some, implPakPut_ok y hb (k + 1) (by omega), Option.bind_some, specPakPut_ok y hb (k + 1) (by omega), Option.bind_some, eaBytes_self _ hp, Option.bind_some, if_pos rfl]
    by_cases h2 : (y.length : Int) > 200
    · rw [if_pos h2]
      exact more_j y hb k hk true (fun e => by cases e)
    · rw [if_neg h2]
      exact more_j y hb k hk _ (fun e => ⟨by omega, by have := of_decide_eq_false e; omega⟩)
end Go.Proofs.Ytfnkaccncmjnaaa.Pure
