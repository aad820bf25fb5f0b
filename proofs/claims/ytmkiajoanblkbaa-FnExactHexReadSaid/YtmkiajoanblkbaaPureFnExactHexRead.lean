/- The program's HexRead is the reference's, for all texts, and what it hands back is its own: the pure statement of the law FnExactHexRead. No condition. -/
import Derived.Test.YtmkiajoanblkbaaPlHexRead
import Derived.Test.YtmkiajoanblkbaaPlMark
import Derived.Test.YtmkiajoanblkbaaPlEqByteS
import Derived.Test.YtmkiajoanblkbaaX0
import Derived.Test.YtmkiajoanblkbaaX10
namespace Go.Proofs.Ytmkiajoanblkbaa.Pure
open Go Go.RowKit Go.Proofs.Ytmkiajoanblkbaa.X Go.Proofs.Ytmkiajoanblkbaa.Pl Go.Proofs.YtmkiajoanblkbaaW.PrintWords Go.Proofs.YtmkiajoanblkbaaW.PrintLast
theorem readS_len (s : ByteArray) : (readS s).1.length ≤ s.size := by
  unfold readS
  split
  · cases h : readL (bytesOf s) with
    | none => simp [readR]
    | some l =>
      have := (readL_len _ _ _ (Nat.le_refl _) h).1
      rw [bytesOf_length] at this
      simp [readR]; omega
  · simp
theorem FnExactHexRead : laws_FnExactHexRead.Pure := by
  intro s hs
  have hl := readS_len s
  refine ⟨s.size + 10 + 1, ?_⟩
  unfold laws_FnExactHexRead.f
  by_cases h : (s.size : Int) > 1048576
  · rw [if_pos h]
  · rw [if_neg h, specHexRead_ok s hs _ (by omega), Option.bind_some, implHexRead_ok s hs _ (by omega), Option.bind_some, eqByteS_self _ (by omega) _ (by omega), Option.bind_some, if_pos rfl]
    simp only [laws_FnExactHexRead.j0]
    rw [if_neg (by simp), markByteS_ok _ (by omega) _ (by omega), Option.bind_some, heldByteS_ok _ (by omega) _ (by omega), Option.bind_some, if_neg (by omega), if_pos rfl, implHexRead_ok s hs _ (by omega), Option.bind_some, eqByteS_self _ (by omega) _ (by omega), Option.bind_some, if_pos rfl]
    rw [show s.size + 10 = s.size + 9 + 1 from rfl]
    simp only [laws_FnExactHexRead.j1]
    rw [if_neg (by simp), heldByteS_ok _ (by omega) _ (by omega), Option.bind_some, if_neg (by omega), if_pos rfl]
end Go.Proofs.Ytmkiajoanblkbaa.Pure
