/- What is drawn for the sum of bytes. The code is bytes. -/
import Derived.Test.YtcoiglbkeebccabPlSum
import Derived.Test.YtcoiglbkeebccabPlBytesD
import Derived.Test.YtcoiglbkeebccabX0
import Derived.Test.YtcoiglbkeebccabX5
namespace Go.Proofs.Ytcoiglbkeebccab.Pl
open Go Go.RowKit Go.Proofs.Ytcoiglbkeebccab.X Go.Proofs.YtcoiglbkeebccabW.PrintWords Go.Proofs.YtcoiglbkeebccabW.PrintLast Go.Proofs.YtcoiglbkeebccabW.PrintMore
theorem drawSum_ok (l : List Int) (hb : Bytes l) : ∃ s, (∀ k, 800 ≤ k → spec_DrawSumOf.f k l = some s) ∧ Bytes s ∧ s.length ≤ 700 := by
  obtain ⟨c, ho, hc, hl, _⟩ := open_ok l hb
  obtain ⟨s, q, hs, hsb, hsl, hq0, hq1⟩ := bytes_ok c hc hl 0 40 (by omega) (by omega) (by omega) (by omega)
  obtain ⟨o, p, hp, _⟩ := odd_ok c hc hl q 9 (by omega) (by omega) (by omega)
  have hf (k : Nat) (hk : 800 ≤ k) : spec_DrawSumOf.f k l = if o = true then spec_DrawSumOf.l0 k s else some s := by
    unfold spec_DrawSumOf.f
    rw [ho, Option.bind_some, hs k (by omega), Option.bind_some, hp k (by omega), Option.bind_some]
  cases o with
  | false => exact ⟨s, fun k hk => (hf k hk).trans rfl, hsb, by omega⟩
  | true =>
    obtain ⟨y, hy, hyb, hyl⟩ := drawSum_l (700 - s.length) s 800 hsb (by omega) (by omega)
    exact ⟨y, fun k hk => (hf k hk).trans ((if_pos rfl).trans (hy k (by omega))), hyb, by omega⟩
end Go.Proofs.Ytcoiglbkeebccab.Pl
