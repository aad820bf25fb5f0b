/- The program's RasRead is the reference's, for all bytes, and what it hands back is its own: the pure statement of the law FnExactRasRead. No condition. -/
import Derived.Test.YthnmeogafklhnaaPlRasRead
import Derived.Test.YthnmeogafklhnaaPlMarkPix
import Derived.Test.YthnmeogafklhnaaPlByteS
import Derived.Test.YthnmeogafklhnaaX0
import Derived.Test.YthnmeogafklhnaaX75
namespace Go.Proofs.Ythnmeogafklhnaa.Pure
open Go Go.RowKit Go.Proofs.Ythnmeogafklhnaa.X Go.Proofs.Ythnmeogafklhnaa.Pl Go.Proofs.YthnmeogafklhnaaW.PrintWords Go.Proofs.YthnmeogafklhnaaW.PrintLast Go.Proofs.YthnmeogafklhnaaW.PrintMore
theorem FnExactRasRead : laws_FnExactRasRead.Pure := by
  intro l _ hl hb
  have hB := bytes_wf hb
  obtain ⟨k, hk⟩ : ∃ k : Nat, l.length + 1000 ≤ k := ⟨l.length + 1000, Nat.le_refl _⟩
  refine ⟨k + 1 + 1 + 1, ?_⟩
  unfold laws_FnExactRasRead.f
  by_cases h : (l.length : Int) > 1048576
  · rw [if_pos h]
  have h36 := readR_len l
  have hs := specRasRead_ok l hB
  have hr (k : Nat) (hk : 100 ≤ k) := eqRas_self (readR l).1 (readR l).2.1 (readR l).2.2.1 (by omega) k (by omega)
  have hbb : ((readR l).2.2.2 != (readR l).2.2.2) = false := by simp
  rw [if_neg h, toByteS_ok l (by omega) (k + 1 + 1 + 1) (by omega), Option.bind_some, hs (k + 1 + 1 + 1) (by omega), Option.bind_some, Option.bind_some, implRasRead_ok, Option.bind_some, hr (k + 1 + 1 + 1) (by omega), Option.bind_some, if_pos rfl, hbb]
  simp only [laws_FnExactRasRead.j0]
  rw [if_neg (by decide), toByteS_ok l (by omega) (k + 1 + 1) (by omega), Option.bind_some, eqByteS_self l (by omega) (k + 1 + 1) (by omega), Option.bind_some, if_pos rfl, markByteS_ok l (by omega) (k + 1 + 1) (by omega), Option.bind_some, if_neg (by omega), hr (k + 1 + 1) (by omega), Option.bind_some, if_pos rfl, hbb]
  simp only [laws_FnExactRasRead.j1]
  rw [if_neg (by decide), markRas_ok _ _ _ (by omega) (k + 1) (by omega), Option.bind_some, heldRas_ok _ _ _ (by omega) (k + 1) (by omega), Option.bind_some, if_neg (by omega), if_pos rfl, toByteS_ok l (by omega) (k + 1) (by omega), Option.bind_some, implRasRead_ok, Option.bind_some, hr (k + 1) (by omega), Option.bind_some, if_pos rfl, hbb]
  simp only [laws_FnExactRasRead.j2]
  rw [if_neg (by decide), heldRas_ok _ _ _ (by omega) k (by omega), Option.bind_some, if_neg (by omega), if_pos rfl]
end Go.Proofs.Ythnmeogafklhnaa.Pure
