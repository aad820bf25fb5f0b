/- What HexText writes HexRead reads back, and the program's two are the reference's: the pure statement of the law FnHexText. No condition. -/
import Derived.Test.YtmkiajoanblkbaaPlHexDraw
import Derived.Test.YtmkiajoanblkbaaX0
import Derived.Test.YtmkiajoanblkbaaX48
import Derived.Test.YtmkiajoanblkbaaX49
namespace Go.Proofs.Ytmkiajoanblkbaa.Pure
open Go Go.RowKit Go.Proofs.Ytmkiajoanblkbaa.X Go.Proofs.Ytmkiajoanblkbaa.Pl Go.Proofs.YtmkiajoanblkbaaW.PrintWords Go.Proofs.YtmkiajoanblkbaaW.PrintLast Go.Proofs.YtmkiajoanblkbaaW.PrintMore
theorem eaBytes_self (l : List Int) : laws_eaBytes.f l l = some true := by
  unfold laws_eaBytes.f
  rw [beq_self_eq_true]
theorem FnHexText : laws_FnHexText.Pure := by
  intro l m _ hl hb _ hm hbm
  obtain ⟨p, hd, hp, hpl⟩ := drawHex_ok l (bytes_wf hb)
  obtain ⟨s, hd', hsl⟩ := drawRead_ok m (bytes_wf hbm)
  refine ⟨103, ?_⟩
  have hsz : (strOfNums (hexL p)).size = 2 * p.length := by rw [str_size, hexL_length]
  have h2 : laws_FnHexText.j2 101 p (strOfNums (hexL p)) false = some true := by
    simp only [laws_FnHexText.j2]
    rw [if_neg (by decide), implHexRead_ok _ (by omega) 100 (by omega), Option.bind_some, readS_hex hp, if_pos rfl, eaBytes_self, Option.bind_some, if_pos rfl, w64 (by omega) (by omega), hsz]
    simp
  have h1 : laws_FnHexText.j1 102 p s (strOfNums (hexL p)) (readS s).1 (readS s).2 false = some true := by
    simp only [laws_FnHexText.j1]
    rw [if_neg (by decide)]
    obtain ⟨hlen, ⟨h3, h4, h5⟩ | h3⟩ := readS_back s
    · rw [if_pos h3, implHexText_ok _ (by omega) h4 101 (by omega), Option.bind_some, h5, if_pos rfl, h2]
    · rw [h3, if_neg (by simp)]
      exact h2
  have hj (b : Bool) : laws_FnHexText.j0 103 l m b = some true := by
    simp only [laws_FnHexText.j0]
    cases b with
    | true => rfl
    | false =>
      rw [if_neg (by decide), hd 102 (by omega), Option.bind_some, hd' 102 (by omega), Option.bind_some, implHexText_ok p (by omega) hp 102 (by omega), Option.bind_some, implHexRead_ok _ (by omega) 102 (by omega), Option.bind_some, specHexRead_ok _ (by omega) 102 (by omega), Option.bind_some, specHexText_ok p (by omega) hp, Option.bind_some, if_pos rfl, eaBytes_self, Option.bind_some, if_pos rfl]
      rw [bne_self_eq_false]
      exact h1
  unfold laws_FnHexText.f
  split
  · exact hj _
  · exact hj _
end Go.Proofs.Ytmkiajoanblkbaa.Pure
