/- A picture has as many colours as places: the pure statement of the law FnRasOk. No condition. -/
import Derived.Test.YtmkiajoanblkbaaPlDrawPix
import Derived.Test.YtmkiajoanblkbaaPlEaOk
import Derived.Test.YtmkiajoanblkbaaX0
import Derived.Test.YtmkiajoanblkbaaX27
import Derived.Test.YtmkiajoanblkbaaX32
namespace Go.Proofs.Ytmkiajoanblkbaa.Pure
open Go Go.RowKit Go.Proofs.Ytmkiajoanblkbaa.X Go.Proofs.Ytmkiajoanblkbaa.Pl Go.Proofs.YtmkiajoanblkbaaW.PrintWords Go.Proofs.YtmkiajoanblkbaaW.PrintLast Go.Proofs.YtmkiajoanblkbaaW.PrintMore
theorem rasOk_l {W H : Int} {l : List S39} (hr : RasP W H l) : ∀ (d i k : Nat), i + d = l.length → d + 100 < k → laws_FnRasOk.l0 k (i : Int) W H l = some true := by
  have hlen := hr.len
  obtain ⟨hW, hH, hn, hg⟩ := id hr
  have hm := mulB hW hH
  intro d
  induction d with
  | zero =>
    intro i k hi hk
    obtain ⟨k, rfl⟩ : ∃ m, k = m + 1 := ⟨k - 1, by omega⟩
    obtain rfl : i = l.length := by omega
    have hd : (l.drop 1).length = l.length - 1 := List.length_drop
    have n1 : ¬ RasP W H (l.drop 1) := fun h => by
      have := h.2.2.1
      omega
    have n2 : ¬ RasP W H ([(⟨256, 0, 0, 0⟩ : S39)] ++ l.drop 1) := fun h => by
      have := (h.2.2.2 ⟨256, 0, 0, 0⟩ (by simp)).1
      have e : (256 : Int) ≤ 255 := this.2
      omega
    have hl2 : ([(⟨256, 0, 0, 0⟩ : S39)] ++ l.drop 1).length = l.length := by
      rw [List.length_append, hd, List.length_singleton]; omega
    simp only [laws_FnRasOk.l0]
    rw [if_neg (Int.lt_irrefl _), if_pos (by omega), Option.bind_some, Option.bind_some, if_pos (by rw [hd, List.length_singleton]; omega), implRasOk_ok W H _ (by omega) k (by omega), Option.bind_some, if_neg (show ¬ decide (RasP W H (l.drop 1)) = true from fun h => n1 (of_decide_eq_true h)), implRasOk_ok W H _ (by omega) k (by omega), Option.bind_some, if_neg (show ¬ decide (RasP W H ([(⟨256, 0, 0, 0⟩ : S39)] ++ l.drop 1)) = true from fun h => n2 (of_decide_eq_true h)), w64 (by omega) (by omega), hn, beq_self_eq_true]
  | succ d ih =>
    intro i k hi hk
    obtain ⟨k, rfl⟩ : ∃ m, k = m + 1 := ⟨k - 1, by omega⟩
    have hil : i < l.length := by omega
    have e := ih (i + 1) k (by omega) (by omega)
    rw [Int.natCast_add] at e
    have hp : GoodP l[i] := hg _ (List.getElem_mem _)
    simp only [laws_FnRasOk.l0]
    rw [if_pos (by omega), if_pos (by omega), rdP hil, implPixOk_ok, Option.bind_some, if_pos (show decide (PixP l[i].f0 l[i].f1 l[i].f2 l[i].f3) = true from decide_eq_true hp), w64 (by omega) (by omega)]
    exact e
theorem FnRasOk : laws_FnRasOk.Pure := by
  intro l _ _ hb
  obtain ⟨k, hk⟩ : ∃ k : Nat, 1000 ≤ k := ⟨1000, by omega⟩
  refine ⟨k + 1, ?_⟩
  unfold laws_FnRasOk.f
  by_cases h : (l.length : Int) > 1048576
  · rw [if_pos h]
  obtain ⟨s, hs, hsb, hsl, _⟩ := open_ok l (bytes_wf hb)
  obtain ⟨W, H, r, q, he, hq0, hq1, hd, _⟩ := ras_ok s hsb hsl 0 2 (by omega) (by omega) (by omega)
  obtain ⟨A, B, C, D, hp⟩ := drawPixOk_ok l (bytes_wf hb)
  obtain ⟨d1, d2, d3, d4, d5⟩ := hd
  have hdraw : spec_DrawRasOk.f (k + 1) l = some (W, H, r) := by
    unfold spec_DrawRasOk.f
    rw [hs, Option.bind_some, he (k + 1) (by omega), Option.bind_some]
  rw [if_neg h, hdraw, Option.bind_some, hp (k + 1) (by omega), Option.bind_some, implRasOk_ok W H r (by omega) (k + 1) (by omega), Option.bind_some, specRasOk_ok W H r (by omega) (k + 1) (by omega), Option.bind_some, if_neg (by simp), implPixOk_ok, Option.bind_some, specPixOk_ok, Option.bind_some]
  simp only [laws_FnRasOk.j0]
  rw [if_neg (by simp)]
  by_cases hr : RasP W H r
  · rw [if_pos (decide_eq_true hr)]
    exact rasOk_l hr r.length 0 k (Nat.zero_add _) (by omega)
  · rw [if_neg (show ¬ decide (RasP W H r) = true from fun h => hr (of_decide_eq_true h)), eaOk_ok, Option.bind_some]
end Go.Proofs.Ytmkiajoanblkbaa.Pure
