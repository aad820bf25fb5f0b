/- A picture's bytes, by the program and by the reference: one and the same. No condition but that lengths are none beyond memory. -/
import Derived.Test.YthnmeogafklhnaaPlRas
import Derived.Test.YthnmeogafklhnaaX0
import Derived.Test.YthnmeogafklhnaaX77
import Derived.Test.YthnmeogafklhnaaX78
import Derived.Test.YthnmeogafklhnaaX82
namespace Go.Proofs.Ythnmeogafklhnaa.Pl
open Go Go.RowKit Go.Proofs.Ythnmeogafklhnaa.X Go.Proofs.YthnmeogafklhnaaW.PrintWords Go.Proofs.YthnmeogafklhnaaW.PrintLast Go.Proofs.YthnmeogafklhnaaW.PrintMore
theorem sBytes_l (W H : Int) (l : List S38) (hl : l.length ≤ 2000000) : ∀ (d i k : Nat), i + d = l.length → d < k → spec_l3Bytes.l0 k (rb_bs W H l i) (i : Int) W H l = some (rb_bs W H l l.length) := by
  intro d
  induction d with
  | zero =>
    intro i k hi hk
    obtain ⟨k, rfl⟩ : ∃ m, k = m + 1 := ⟨k - 1, by omega⟩
    obtain rfl : i = l.length := by omega
    simp only [spec_l3Bytes.l0]
    rw [if_neg (Int.lt_irrefl _)]
  | succ d ih =>
    intro i k hi hk
    obtain ⟨k, rfl⟩ : ∃ m, k = m + 1 := ⟨k - 1, by omega⟩
    have hn := ih (i + 1) k (by omega) (by omega)
    have hil : i < l.length := by omega
    have f1 : (i : Int) < (l.length : Int) := by omega
    have f2 : (rb_bs W H l i).length + [(l[i]).f0 % 256, (l[i]).f1 % 256, (l[i]).f2 % 256, (l[i]).f3 % 256].length < 140737488355328 := by
      rw [rb_len W H l i (by omega), show [(l[i]).f0 % 256, (l[i]).f1 % 256, (l[i]).f2 % 256, (l[i]).f3 % 256].length = 4 from rfl]
      omega
    have e := rb_succ W H l i hil
    unfold rb_quad at e
    have w1 : wrap64 ((i : Int) + 1) = ((i + 1 : Nat) : Int) := by rw [w64 (by omega) (by omega)]; omega
    simp only [spec_l3Bytes.l0]
    rw [if_pos f1, if_pos (Int.natCast_nonneg i), rdP hil, Option.bind_some, if_pos f2, ← e, w1]
    exact hn
def bytesR (W H : Int) (l : List S38) : List Int := if RasP W H l then rb_bs W H l l.length else []
theorem bytesR_len (W H : Int) (l : List S38) : (bytesR W H l).length ≤ 146 := by
  unfold bytesR
  split
  · rename_i h
    have := RasP.len h
    rw [rb_len W H l _ (Nat.le_refl _)]
    omega
  · exact Nat.zero_le _
theorem implRasBytes_ok (W H : Int) (l : List S38) (hl : l.length ≤ 1099511627776) (k : Nat) (hk : l.length + 2 ≤ k) : impl_RasBytes.f k W H l = some (bytesR W H l) := by
  unfold impl_RasBytes.f bytesR
  rw [implRasOk_ok W H l hl k hk, Option.bind_some]
  by_cases h : RasP W H l
  · rw [if_pos (decide_eq_true h), if_pos ⟨h.1.1, h.1.2, h.2.1.1, h.2.1.2, h.2.2.1⟩, if_pos h]
  · rw [if_neg (show ¬ decide (RasP W H l) = true from fun g => h (of_decide_eq_true g)), if_neg h]
theorem specRasBytes_ok (W H : Int) (l : List S38) (hl : l.length ≤ 1099511627776) (k : Nat) (hk : l.length + 2 ≤ k) : spec_RasBytes.f k W H l = some (bytesR W H l) := by
  unfold spec_RasBytes.f bytesR
  rw [specRasOk_ok W H l hl k hk, Option.bind_some]
  by_cases h : RasP W H l
  · have h36 := RasP.len h
    have e := sBytes_l W H l (by omega) l.length 0 k (Nat.zero_add _) (by omega)
    rw [rb_zero, show ((0 : Nat) : Int) = 0 from rfl] at e
    rw [if_pos (decide_eq_true h), if_pos h]
    unfold spec_l3Bytes.f
    rw [e, Option.bind_some]
  · rw [if_neg (show ¬ decide (RasP W H l) = true from fun g => h (of_decide_eq_true g)), if_neg h]
end Go.Proofs.Ythnmeogafklhnaa.Pl
