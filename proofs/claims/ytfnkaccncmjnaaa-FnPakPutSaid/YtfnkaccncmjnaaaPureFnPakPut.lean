/- What is packed is unpacked, and without its last byte it is not, whatever is drawn; noughts take less than a third: the pure statement of the law FnPakPut. No condition. -/
import Derived.Test.YtfnkaccncmjnaaaPlPakA
import Derived.Test.YtfnkaccncmjnaaaX0
import Derived.Test.YtfnkaccncmjnaaaX60
namespace Go.Proofs.Ytfnkaccncmjnaaa.Pure
open Go Go.RowKit Go.Proofs.Ytfnkaccncmjnaaa.X Go.Proofs.Ytfnkaccncmjnaaa.Pl Go.Proofs.YtfnkaccncmjnaaaW.PrintWords Go.Proofs.YtfnkaccncmjnaaaW.PrintLast Go.Proofs.YtfnkaccncmjnaaaW.PrintMore Go.Proofs.Ytfnkaccncmjnaaa.Hyb
theorem last_at {n : Nat} (h1 : 1 ≤ n) (h2 : n ≤ 1000) : mx 0 (wrap64 ((n : Int) - 1)) = ((n - 1 : Nat) : Int) := by
  rw [w64 (by omega) (by omega)]
  unfold mx
  first | omega | (split <;> omega)
theorem FnPakPut : laws_FnPakPut.Pure := by
  intro l hl _ hw
  unfold maxLen at hl
  by_cases h : (l.length : Int) > 1048576
  · refine ⟨0, ?_⟩
    unfold laws_FnPakPut.f
    rw [if_pos h]
  · obtain ⟨y, hy, hb, _⟩ := drawPakPut_ok l (bytes_wf hw)
    obtain ⟨k, hk⟩ : ∃ k : Nat, 7000 ≤ k := ⟨7000, Nat.le_refl _⟩
    have hp := pkPutR_bytes y
    have hpl := pkPutR_len y
    refine ⟨k, ?_⟩
    unfold laws_FnPakPut.f
    rw [if_neg h, hy k (by omega), Option.bind_some, implPakPut_ok y hb k (by omega), Option.bind_some, specPakPut_ok y hb k (by omega), Option.bind_some, eaBytes_self _ hp, Option.bind_some, if_pos rfl]
    by_cases h2 : (y.length : Int) > 200
    · rw [if_pos h2, if_pos (show ((pkPutR y).length : Int) = 0 by unfold pkPutR; rw [if_pos h2]; rfl), eaOk_ok, Option.bind_some]
    · have hlen := put_len y hb (by omega)
      have hcl := codes_len y
      have hshort := short_ok y hb (by omega)
      have hback := back_ok y hb (by omega)
      obtain ⟨n, hn⟩ : ∃ n : Nat, (60 + ((l.length : Int) % 100)).toNat = n := ⟨_, rfl⟩
      have hn1 : 60 ≤ n := by omega
      have hn2 : n ≤ 159 := by omega
      have hz := zero_codes n hn1 hn2
      have hzl := put_len (List.replicate n 0) (bytes_rep n) (by rw [List.length_replicate]; omega)
      have hzi := implPakPut_ok (List.replicate n 0) (bytes_rep n) k (by omega)
      have hti := implPakGet_ok _ (bytes_take hp ((pkPutR y).length - 1)) (by rw [List.length_take]; omega) k (by omega)
      have hgi := implPakGet_ok _ hp (by omega) k (by omega)
      rw [hshort] at hti
      rw [hback] at hgi
      rw [if_neg h2, hgi, Option.bind_some, last_at (by omega) (by omega), if_pos (by omega), if_pos (by omega), Int.toNat_natCast, hti, Option.bind_some, if_pos rfl, eaBytes_self y hb, Option.bind_some, if_pos rfl, if_neg (by decide), if_pos (by omega), if_pos (by omega), Option.bind_some, hn, hzi, Option.bind_some]
      rw [w64 (x := 3 * ((pkPutR (List.replicate n 0)).length : Int)) (by omega) (by omega), if_pos (by rw [List.length_replicate]; omega)]
      rw [w64 (x := (y.length : Int) + 1) (by omega) (by omega), w64 (x := 9 * _) (by omega) (by omega), w64 (x := _ + 7) (by omega) (by omega), Int.tdiv_eq_ediv_of_nonneg (by omega), w64 (by omega) (by omega), decide_eq_true (by omega)]
end Go.Proofs.Ytfnkaccncmjnaaa.Pure
