/- The program's BitGet is the reference's, for all bytes and places: the pure statement of the law FnExactBitGet. No condition. -/
import Derived.Test.YtcoiglbkeebccabPlByteS
import Derived.Test.YtcoiglbkeebccabPlBitGet
import Derived.Test.YtcoiglbkeebccabX0
import Derived.Test.YtcoiglbkeebccabX1
import Derived.Test.YtcoiglbkeebccabX2
namespace Go.Proofs.Ytcoiglbkeebccab.Pure
open Go Go.RowKit Go.Proofs.Ytcoiglbkeebccab.X Go.Proofs.Ytcoiglbkeebccab.Pl
theorem i64_le {x : Int} (h : (Lit.int .i64 x).wf = true) : -9223372036854775808 ≤ x ∧ x ≤ 9223372036854775807 := by
  simpa [Lit.wf, IntKind.min, IntKind.max, IntKind.signed, IntKind.bits] using h
theorem exactBitGet_core (k : Nat) (l : List Int) (a n : Int) (r : Int × Bool) (hs : ¬ (l.length : Int) > 1048576) (h1 : ∀ k' ≥ k, laws_toByteS.f k' l = some l) (h2 : spec_BitGet.f (k + 1) l a n = some r) (h3 : impl_BitGet.f (k + 1) l a n = some r) (h4 : laws_eqByteS.f k l l = some true) : laws_FnExactBitGet.f (k + 1) l a n = some true := by
  unfold laws_FnExactBitGet.f
  rw [if_neg hs, h1 _ (by omega), Option.bind_some, h2, Option.bind_some, Option.bind_some, h3, Option.bind_some, if_pos rfl]
  simp only [laws_FnExactBitGet.j0]
  rw [if_neg (by simp), h1 _ (Nat.le_refl _), Option.bind_some, h4, Option.bind_some, if_pos rfl]
theorem FnExactBitGet : laws_FnExactBitGet.Pure := by
  intro l a n _ hl hb ha hn
  by_cases h : (l.length : Int) > 1048576
  · exact ⟨0, by unfold laws_FnExactBitGet.f; rw [if_pos h]⟩
  · exact ⟨l.length + 15 + 1, exactBitGet_core _ l a n _ h (fun k' hk => toByteS_ok l (by omega) _ (by omega)) (specGet_ok l (bytes_wf hb) (by omega) a n _ (by omega)) (implGet_ok l (bytes_wf hb) (by omega) a n (i64_le ha).2 _ (by omega)) (eqByteS_self l (by omega) _ (by omega))⟩
end Go.Proofs.Ytcoiglbkeebccab.Pure
