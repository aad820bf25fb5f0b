/- Different bytes are different strings: what the laws' test of two rows of bytes comes to. No condition but that they are bytes. -/
import Derived.Test.YtfnkaccncmjnaaaPl
import Derived.Test.YtfnkaccncmjnaaaX0
import Derived.Test.YtfnkaccncmjnaaaX23
namespace Go.Proofs.Ytfnkaccncmjnaaa.Pl
open Go Go.RowKit Go.Proofs.Ytfnkaccncmjnaaa.X Go.Proofs.YtfnkaccncmjnaaaW.PrintWords Go.Proofs.YtfnkaccncmjnaaaW.PrintLast Go.Proofs.YtfnkaccncmjnaaaW.PrintMore
theorem strs_inj {l m : List Int} (hl : Bytes l) (hm : Bytes m) (h : (strOfNums l).data.toList = (strOfNums m).data.toList) : l = m := by
  rw [strOfNums_data, strOfNums_data] at h
  induction l generalizing m with
  | nil => cases m with
    | nil => rfl
    | cons y m => simp at h
  | cons x l ih =>
    cases m with
    | nil => simp at h
    | cons y m =>
      simp only [List.map_cons, List.cons.injEq] at h
      obtain ⟨hx0, hx1⟩ := hl x (by simp)
      obtain ⟨hy0, hy1⟩ := hm y (by simp)
      have e : x = y := by
        have := congrArg UInt8.toNat h.1
        rw [UInt8.toNat_ofNat', UInt8.toNat_ofNat'] at this
        omega
      rw [e, ih (fun z hz => hl z (by simp [hz])) (fun z hz => hm z (by simp [hz])) h.2]
theorem eaBytes_core (l m : List Int) (hl : Bytes l) (hm : Bytes m) (A B : ByteArray) (hA : A = strOfNums l) (hB : B = strOfNums m) : (A.toList == B.toList) = decide (l = m) := by
  by_cases e : l = m
  · subst e; rw [hA, hB]; simp
  · have h2 : ¬ A.toList = B.toList := fun h => e (strs_inj hl hm (by rw [← hA, ← hB, ← ByteArray.toList_eq, ← ByteArray.toList_eq]; exact h))
    rw [beq_eq_false_iff_ne.mpr h2, decide_eq_false e]
theorem eaBytes_ok (l m : List Int) (hl : Bytes l) (hm : Bytes m) : laws_eaBytes.f l m = some (decide (l = m)) := by
  unfold laws_eaBytes.f
  rw [eaBytes_core l m hl hm _ _ rfl rfl]
theorem eaBytes_self (l : List Int) (hl : Bytes l) : laws_eaBytes.f l l = some true := by rw [eaBytes_ok l l hl hl, decide_eq_true rfl]
end Go.Proofs.Ytfnkaccncmjnaaa.Pl
