/- What is unpacked is known to its end, whatever is drawn: the pure statement of the law FnPakGet. No condition. -/
import Derived.Test.YtfnkaccncmjnaaaPlPakA
import Derived.Test.YtfnkaccncmjnaaaX0
import Derived.Test.YtfnkaccncmjnaaaX63
namespace Go.Proofs.Ytfnkaccncmjnaaa.Pure
open Go Go.RowKit Go.Proofs.Ytfnkaccncmjnaaa.X Go.Proofs.Ytfnkaccncmjnaaa.Pl Go.Proofs.YtfnkaccncmjnaaaW.PrintWords Go.Proofs.YtfnkaccncmjnaaaW.PrintLast Go.Proofs.YtfnkaccncmjnaaaW.PrintMore
theorem FnPakGet : laws_FnPakGet.Pure := by
  intro l _ _ hw
  by_cases h : (l.length : Int) > 1048576
  · refine ⟨0, ?_⟩
    unfold laws_FnPakGet.f
    rw [if_pos h]
  · obtain ⟨p, hd, hp, hl⟩ := drawPakGet_ok l (bytes_wf hw)
    obtain ⟨k, hk⟩ : ∃ k : Nat, 7000 ≤ k := ⟨7000, Nat.le_refl _⟩
    obtain ⟨hgb, hgl, hg0⟩ := getR_good p hp
    have himpl := implPakGet_ok p hp (by omega) (k + 1) (by omega)
    have hspec := specPakGet_ok p hp (by omega) (k + 1) (by omega)
    have hmore : (pkGetR p).2 = true → pkGetR (p ++ [0]) = ([], false) := fun e => more_no p (pkGetR p).1 201 0 [] [] [] (Prod.ext rfl e)
    refine ⟨k + 1, ?_⟩
    unfold laws_FnPakGet.f
    rw [if_neg h, hd (k + 1) (by omega), Option.bind_some, himpl, Option.bind_some, hspec, Option.bind_some]
    generalize pkGetR p = r at hgb hgl hg0 hmore
    obtain ⟨b, ok⟩ := r
    dsimp only at hgb hgl hg0 hmore ⊢
    rw [eaBytes_self b hgb, Option.bind_some, if_pos rfl, show (ok != ok) = false by simp]
    simp only [laws_FnPakGet.j0]
    rw [if_neg (by decide)]
    cases ok with
    | false =>
      have hb0 := hg0 rfl
      subst hb0
      rw [if_neg (by decide), if_pos (by rfl), eaOk_ok, Option.bind_some]
    | true =>
      have hz : Bytes (p ++ [0]) := bytes_snoc hp ⟨by decide, by decide⟩
      rw [if_pos rfl, Option.bind_some, if_pos (by rw [List.length_nil]; omega), Option.bind_some, List.nil_append, if_pos (by omega), implPakGet_ok _ hz (by rw [List.length_append, List.length_singleton]; omega) k (by omega), Option.bind_some, implPakPut_ok b hgb k (by omega), Option.bind_some, implPakGet_ok _ (pkPutR_bytes b) (by have := pkPutR_len b; omega) k (by omega), Option.bind_some, hmore rfl, if_neg (by decide), if_pos (by omega), back_ok b hgb (by omega), if_pos rfl, eaBytes_self b hgb, Option.bind_some]
end Go.Proofs.Ytfnkaccncmjnaaa.Pure
