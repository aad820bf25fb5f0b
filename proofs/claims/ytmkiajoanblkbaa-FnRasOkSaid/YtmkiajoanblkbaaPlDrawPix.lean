/- What is drawn as a colour: the drawing ends. The code is bytes. -/
import Derived.Test.YtmkiajoanblkbaaPlDrawRas
import Derived.Test.YtmkiajoanblkbaaX0
import Derived.Test.YtmkiajoanblkbaaX28
namespace Go.Proofs.Ytmkiajoanblkbaa.Pl
open Go Go.RowKit Go.Proofs.Ytmkiajoanblkbaa.X Go.Proofs.YtmkiajoanblkbaaW.PrintWords Go.Proofs.YtmkiajoanblkbaaW.PrintLast Go.Proofs.YtmkiajoanblkbaaW.PrintMore
theorem drawPixOk_ok (l : List Int) (hb : Bytes l) : ∃ A B C D : Int, ∀ k, 60 ≤ k → spec_DrawPixOk.f k l = some (A, B, C, D) := by
  obtain ⟨s, ho, hs, hl, _⟩ := open_ok l hb
  obtain ⟨p1, p2, p3, p4, e1, _⟩ := pix_ok s hs hl 0 (by omega) (by omega)
  obtain ⟨r, er, r0, r1, _⟩ := pick_ok s hs hl (0 + 1 + 1 + 1 + 1 + 1 + 1 + 1 + 1) 6 (by omega) (by omega)
  obtain ⟨t, et, t0, t1, _⟩ := pick_ok s hs hl (0 + 1 + 1 + 1 + 1 + 1 + 1 + 1 + 1 + 1) 2 (by omega) (by omega)
  replace t1 := t1 (by omega)
  by_cases c0 : r = 0
  · refine ⟨rd [-1, 256] t, p2, p3, p4, fun k hk => ?_⟩
    unfold spec_DrawPixOk.f
    rw [ho, Option.bind_some, e1 k (by omega), Option.bind_some, er k (by omega), Option.bind_some, if_pos c0, Option.bind_some, et k (by omega), Option.bind_some, if_pos t0, if_pos (by simpa using t1)]
  by_cases c1 : r = 1
  · refine ⟨p1, p2, p3, rd [-1, 256] t, fun k hk => ?_⟩
    unfold spec_DrawPixOk.f
    rw [ho, Option.bind_some, e1 k (by omega), Option.bind_some, er k (by omega), Option.bind_some, if_neg c0, if_pos c1, Option.bind_some, et k (by omega), Option.bind_some, if_pos t0, if_pos (by simpa using t1)]
  · refine ⟨p1, p2, p3, p4, fun k hk => ?_⟩
    unfold spec_DrawPixOk.f
    rw [ho, Option.bind_some, e1 k (by omega), Option.bind_some, er k (by omega), Option.bind_some, if_neg c0, if_neg c1]
end Go.Proofs.Ytmkiajoanblkbaa.Pl
