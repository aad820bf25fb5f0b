/- Different bytes have different hex texts, whatever is drawn: the pure statement of the law FnHexApart. No condition. -/
import Derived.Test.YtcoiglbkeebccabPlHexInj
import Derived.Test.YtcoiglbkeebccabPlBytesD
import Derived.Test.YtcoiglbkeebccabPlEaOk
import Derived.Test.YtcoiglbkeebccabX0
import Derived.Test.YtcoiglbkeebccabX2
import Derived.Test.YtcoiglbkeebccabX3
namespace Go.Proofs.Ytcoiglbkeebccab.Pure
open Go Go.RowKit Go.Proofs.Ytcoiglbkeebccab.X Go.Proofs.Ytcoiglbkeebccab.Pl Go.Proofs.YtcoiglbkeebccabW.PrintWords Go.Proofs.YtcoiglbkeebccabW.PrintLast Go.Proofs.YtcoiglbkeebccabW.PrintMore
theorem drawHex_ok (l : List Int) (hb : Bytes l) : ∃ s, (∀ k, 20 ≤ k → spec_DrawHexText.f k l = some s) ∧ Bytes s ∧ (s.length : Int) ≤ 12 := by
  obtain ⟨c, ho, hc, hl, _⟩ := open_ok l hb
  obtain ⟨s, q, hs, hsb, hsl, hq0, hq1⟩ := bytes_ok c hc hl 0 12 (by omega) (by omega) (by omega) (by omega)
  refine ⟨s, fun k hk => ?_, hsb, hsl⟩
  unfold spec_DrawHexText.f
  rw [ho, Option.bind_some, hs k (by omega), Option.bind_some]
theorem hexApart_core (s t : List Int) (hs : Bytes s) (ht : Bytes t) (P Q A B : ByteArray) (hP : P = strOfNums (hexL s)) (hQ : Q = strOfNums (hexL t)) (hA : A = strOfNums s) (hB : B = strOfNums t) : ((P.toList == Q.toList) == (A.toList == B.toList)) = true := by
  by_cases e : s = t
  · subst e
    rw [hP, hQ, hA, hB]
    simp
  · have h1 : ¬ P.toList = Q.toList := fun h => e (hexL_inj hs ht (str_inj (hexL_bytes hs) (hexL_bytes ht) (by rw [← hP, ← hQ, ← ByteArray.toList_eq, ← ByteArray.toList_eq]; exact h)))
    have h2 : ¬ A.toList = B.toList := fun h => e (str_inj hs ht (by rw [← hA, ← hB, ← ByteArray.toList_eq, ← ByteArray.toList_eq]; exact h))
    rw [beq_eq_false_iff_ne.mpr h1, beq_eq_false_iff_ne.mpr h2]
    rfl
theorem FnHexApart : laws_FnHexApart.Pure := by
  intro l m _ hl hb _ hm hbm
  obtain ⟨s, hd, hs, hsl⟩ := drawHex_ok l (bytes_wf hb)
  obtain ⟨t, hd', ht, htl⟩ := drawHex_ok m (bytes_wf hbm)
  refine ⟨31, ?_⟩
  have hj (b : Bool) : laws_FnHexApart.j0 31 l m b = some true := by
    simp only [laws_FnHexApart.j0]
    cases b with
    | true => rfl
    | false =>
      rw [if_neg (by decide), hd 30 (by omega), Option.bind_some, hd' 30 (by omega), Option.bind_some, implHexText_ok s (by omega) hs 30 (by omega), Option.bind_some, specHexText_ok s (by omega) hs, Option.bind_some, if_pos rfl, implHexText_ok t (by omega) ht 30 (by omega), Option.bind_some]
      unfold laws_eaBytes.f
      rw [Option.bind_some, if_pos (hexApart_core s t hs ht _ _ _ _ rfl rfl rfl rfl), eaOk_ok, Option.bind_some]
  unfold laws_FnHexApart.f
  split
  · exact hj _
  · exact hj _
end Go.Proofs.Ytcoiglbkeebccab.Pure
