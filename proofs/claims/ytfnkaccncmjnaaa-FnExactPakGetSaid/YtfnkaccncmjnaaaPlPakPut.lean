/- What the program's and the reference's packing of bytes come to: one and the same. The bytes are bytes, no more than 2^40. -/
import Derived.Test.YtfnkaccncmjnaaaPlPak
import Derived.Test.YtfnkaccncmjnaaaPlPutL
import Derived.Test.YtfnkaccncmjnaaaPlStr
import Derived.Test.YtfnkaccncmjnaaaX0
import Derived.Test.YtfnkaccncmjnaaaX43
import Derived.Test.YtfnkaccncmjnaaaX44
import Derived.Test.YtfnkaccncmjnaaaX45
import Derived.Test.YtfnkaccncmjnaaaX49
namespace Go.Proofs.Ytfnkaccncmjnaaa.Pl
open Go Go.RowKit Go.Proofs.Ytfnkaccncmjnaaa.X Go.Proofs.YtfnkaccncmjnaaaW.PrintWords Go.Proofs.YtfnkaccncmjnaaaW.PrintLast Go.Proofs.YtfnkaccncmjnaaaW.PrintMore
theorem str_iff {l m : List Int} (hl : Bytes l) (hm : Bytes m) : (strOfNums l).toList = (strOfNums m).toList ↔ l = m := by
  have h := eaBytes_core l m hl hm _ _ rfl rfl
  constructor
  · intro h2
    rw [beq_iff_eq.mpr h2] at h
    exact of_decide_eq_true h.symm
  · rintro rfl; rfl
/-- The numbers that are laid for bytes. -/
def cw (cs : List Int) : List S36 := cs.map (fun c => (⟨c, 9⟩ : S36))
def pkPutR (l : List Int) : List Int := if (l.length : Int) > 200 then [] else res (cw (pkCodes l) ++ [⟨256, 9⟩]) [] 0
theorem cw_len (cs : List Int) : (cw cs).length = cs.length := List.length_map _
theorem codes_len (l : List Int) : (pkCodes l).length ≤ l.length := pkEnc_len l.length [] l (Nat.le_refl _)
theorem implPakPut_ok (l : List Int) (hb : Bytes l) (k : Nat) (hk : 400 ≤ k) : impl_PakPut.f k l = some (pkPutR l) := by
  unfold impl_PakPut.f pkPutR
  by_cases h : (l.length : Int) > 200
  · rw [if_pos h, if_pos h]
  · have hc := codes_len l
    have hcl := cw_len (pkCodes l)
    rw [if_neg h, if_neg h, if_pos (List.all_eq_true.mpr (fun x hx => decide_eq_true (by have := hb x hx; exact ⟨this.1, by have := this.2; omega⟩)))]
    exact implPut_ok _ k (by
      show (cw (pkCodes l) ++ [(⟨256, 9⟩ : S36)]).length + 16 < k
      rw [List.length_append, List.length_singleton]; omega)
/-! The reference. -/
theorem mid_take (l : List Int) (a n : Nat) : midL l (a : Int) ((a : Int) + (n : Int)) = (l.drop a).take n := by
  unfold midL
  rw [show (a : Int) + (n : Int) = ((a + n : Nat) : Int) by omega, Int.toNat_natCast, Int.toNat_natCast, List.drop_take, show a + n - a = n by omega]
theorem rdL {met : List (List Int)} {i : Nat} (h : i < met.length) : rd_L4 met (i : Int) = met[i] := by
  unfold rd_L4
  rw [Int.toNat_natCast, List.getD_eq_getElem?_getD, List.getElem?_eq_getElem h]; rfl
theorem specAt_l (met : List (List Int)) (s : List Int) (hm : ∀ t ∈ met, Bytes t) (hs : Bytes s) (hl : met.length ≤ 1000) : ∀ (d i k : Nat), i + d = met.length → d < k → (∀ (j : Nat) (h : j < met.length), j < i → met[j] ≠ s) →
    spec_l4At.l0 k met s (i : Int) = some (if s ∈ met then (pkAt met s : Int) else -1) := by
  intro d
  induction d with
  | zero =>
    intro i k hi hk hj
    obtain ⟨k, rfl⟩ : ∃ m, k = m + 1 := ⟨k - 1, by omega⟩
    simp only [spec_l4At.l0]
    rw [if_neg (by omega), if_neg]
    intro h
    obtain ⟨h1, h2⟩ := pkAt_mem h
    exact hj _ h1 (by omega) h2
  | succ d ih =>
    intro i k hi hk hj
    obtain ⟨k, rfl⟩ : ∃ m, k = m + 1 := ⟨k - 1, by omega⟩
    have hil : i < met.length := by omega
    unfold spec_l4At.l0
    rw [if_pos (by omega), if_pos (by omega), rdL hil]
    have hiff := str_iff (hm _ (List.getElem_mem hil)) hs
    by_cases he : met[i] = s
    · rw [if_pos (hiff.mpr he), if_pos (he ▸ List.getElem_mem hil)]
      have hmem : s ∈ met := he ▸ List.getElem_mem hil
      obtain ⟨h1, h2⟩ := pkAt_mem hmem
      have h3 : ¬ pkAt met s < i := fun h => hj _ h1 h h2
      have h4 : ¬ i < pkAt met s := fun h => by
        have := List.not_of_lt_findIdx h
        simp at this
        exact this he
      congr 1
      omega
    · rw [if_neg (fun h => he (hiff.mp h)), w64 (by omega) (by omega), show (i : Int) + 1 = ((i + 1 : Nat) : Int) by omega]
      exact ih (i + 1) k (by omega) (by omega) (fun j h h2 => by
        by_cases e : j = i
        · subst e; exact he
        · exact hj j h (by omega))
theorem specCode_ok (met : List (List Int)) (s : List Int) (hm : ∀ t ∈ met, Bytes t) (hs : Bytes s) (hl : met.length ≤ 1000) (hs1 : s.length ≠ 0) (k : Nat) (hk : met.length < k) :
    spec_l4Code.f k met s = some (if s.length = 1 ∨ s ∈ met then pkCode met s else -1) := by
  unfold spec_l4Code.f
  by_cases h1 : s.length = 1
  · rw [if_pos (by omega), if_pos (by omega), if_pos (.inl h1)]
    unfold pkCode
    rw [if_pos h1]
    obtain ⟨x, rfl⟩ : ∃ x, s = [x] := List.length_eq_one_iff.mp h1
    have := hs x (by simp)
    have h2 := this.1
    have h3 := this.2
    show some (wrap64 x) = some x
    rw [w64 (by omega) (by omega)]
  · rw [if_neg (by omega)]
    unfold spec_l4At.f
    have e := specAt_l met s hm hs hl met.length 0 k (by omega) hk (fun j _ h => absurd h (by omega))
    rw [show ((0 : Nat) : Int) = 0 from rfl] at e
    rw [e, Option.bind_some]
    by_cases h2 : s ∈ met
    · obtain ⟨h3, _⟩ := pkAt_mem h2
      rw [if_pos h2, if_neg (by omega), if_pos (.inr h2), w64 (by omega) (by omega)]
      unfold pkCode
      rw [if_neg h1]
    · rw [if_neg h2, if_pos (by decide), if_neg (fun h => h.elim h1 h2)]
theorem specPak_l1 (l : List Int) (hb : Bytes l) (hl : l.length ≤ 200) (met : List (List Int)) (hm : ∀ t ∈ met, Bytes t) (hml : met.length ≤ 200) (cs : List S36) (hcl : cs.length ≤ 300) (a : Nat) (ha : a < l.length) :
    ∀ (f n k : Nat), f + n = (l.drop a).length + 1 → 1 ≤ n → n ≤ (l.drop a).length → f + 300 < k → (n = 1 ∨ (l.drop a).take n ∈ met) →
      spec_PakPut.l1 k l met cs (a : Int) (n : Int) = spec_PakPut.l0 (k - 1 - (pkGrow met (l.drop a) f n - n)) l (pkMet met (l.drop a) (pkGrow met (l.drop a) f n)) (cs ++ [⟨pkCode met ((l.drop a).take (pkGrow met (l.drop a) f n)), 9⟩]) ((a + pkGrow met (l.drop a) f n : Nat) : Int) := by
  have hdl : (l.drop a).length = l.length - a := List.length_drop
  have hdb := bytes_drop hb a
  intro f
  induction f with
  | zero => intro n k h1 h2 h3; omega
  | succ f ih =>
    intro n k h1 h2 h3 hk hn
    obtain ⟨k, rfl⟩ : ∃ m, k = m + 1 := ⟨k - 1, by omega⟩
    have hnl : ((l.drop a).take n).length = n := by rw [List.length_take]; omega
    have hcode := specCode_ok met ((l.drop a).take n) hm (bytes_take hdb n) (by omega) (by omega) k (by omega)
    rw [if_pos (by rw [hnl]; exact hn)] at hcode
    have Q1 : Aside0 (wrap64 ((a : Int) + (n : Int)) = (a : Int) + (n : Int)) := ⟨w64 (by omega) (by omega)⟩
    have Q2 : Aside0 (wrap64 ((a : Int) + (n : Int) + 1) = (a : Int) + ((n + 1 : Nat) : Int)) := ⟨by rw [w64 (by omega) (by omega)]; omega⟩
    unfold spec_PakPut.l1
    rw [Q1.out, Q2.out]
    by_cases hlt : n < (l.drop a).length
    · have hnl1 : ((l.drop a).take (n + 1)).length = n + 1 := by rw [List.length_take]; omega
      have hcode1 := specCode_ok met ((l.drop a).take (n + 1)) hm (bytes_take hdb (n + 1)) (by omega) (by omega) k (by omega)
      rw [if_pos (by omega), if_pos (by omega), if_pos (by omega), if_pos (by omega), mid_take, hcode1, Option.bind_some]
      unfold pkGrow
      by_cases hin : (l.drop a).take (n + 1) ∈ met
      · rw [if_pos (Or.inr hin), if_pos (show n < (l.drop a).length ∧ (l.drop a).take (n + 1) ∈ met from ⟨hlt, hin⟩)]
        have hp : pkCode met ((l.drop a).take (n + 1)) ≥ 0 := by unfold pkCode; rw [if_neg (by omega)]; omega
        rw [if_pos hp, w64 (by omega) (by omega), show (n : Int) + 1 = ((n + 1 : Nat) : Int) by omega, ih (n + 1) k (by omega) (by omega) (by omega) (by omega) (.inr hin)]
        have hge := pkGrow_ge met (l.drop a) f (n + 1)
        rw [show k - 1 - (pkGrow met (l.drop a) f (n + 1) - (n + 1)) = k + 1 - 1 - (pkGrow met (l.drop a) f (n + 1) - n) by omega]
      · rw [if_neg (show ¬ (((l.drop a).take (n + 1)).length = 1 ∨ (l.drop a).take (n + 1) ∈ met) from fun h => h.elim (fun h => by omega) hin), if_neg (show ¬ (-1 : Int) ≥ 0 by decide), if_neg (show ¬ (n < (l.drop a).length ∧ (l.drop a).take (n + 1) ∈ met) from fun h => hin h.2), if_pos (by omega), if_pos (by omega), mid_take, hcode, Option.bind_some, if_pos (by omega), Option.bind_some, w64 (x := 257 + (met.length : Int)) (by omega) (by omega), if_pos (by omega), Option.bind_some, if_pos (by rw [hnl1]; simp; omega), if_pos (by omega)]
        unfold pkMet
        rw [if_pos hlt, List.nil_append, Nat.sub_self, show (a : Int) + (n : Int) = ((a + n : Nat) : Int) by omega, show k + 1 - 1 - 0 = k by omega]
    · rw [if_neg (by omega), if_pos (by omega), if_pos (by omega), if_pos (by omega), mid_take, hcode, Option.bind_some, if_pos (by omega)]
      unfold pkGrow
      rw [if_neg (show ¬ (n < (l.drop a).length ∧ (l.drop a).take (n + 1) ∈ met) from fun h => hlt h.1)]
      unfold pkMet
      rw [if_neg hlt, Nat.sub_self, show (a : Int) + (n : Int) = ((a + n : Nat) : Int) by omega, show k + 1 - 1 - 0 = k by omega]
theorem specPak_l0 (l : List Int) (hb : Bytes l) (hl : l.length ≤ 200) : ∀ (d a k : Nat) (met : List (List Int)) (cs : List S36), (l.drop a).length ≤ d → a ≤ l.length → met.length + (l.drop a).length ≤ 200 → cs.length + (l.drop a).length ≤ 200 → 2 * (l.drop a).length + 5000 ≤ k → (∀ t ∈ met, Bytes t) →
    spec_PakPut.l0 k l met cs (a : Int) = some (res (cs ++ cw (pkEnc d met (l.drop a)) ++ [⟨256, 9⟩]) [] 0) := by
  intro d
  induction d with
  | zero =>
    intro a k met cs h1 h2 h3 h4 hk hm
    have hdl : (l.drop a).length = l.length - a := List.length_drop
    obtain ⟨k, rfl⟩ : ∃ m, k = m + 1 := ⟨k - 1, by omega⟩
    unfold spec_PakPut.l0 pkEnc
    rw [if_neg (by omega), if_pos (by omega), specPut_ok _ (by simp; omega) k (by simp; omega), Option.bind_some]
    simp [cw]
  | succ d ih =>
    intro a k met cs h1 h2 h3 h4 hk hm
    have hdl : (l.drop a).length = l.length - a := List.length_drop
    obtain ⟨k, rfl⟩ : ∃ m, k = m + 1 := ⟨k - 1, by omega⟩
    unfold spec_PakPut.l0
    by_cases hr : l.drop a = []
    · have h0 : (l.drop a).length = 0 := by rw [hr]; rfl
      unfold pkEnc
      rw [if_neg (by omega), if_pos (by omega), specPut_ok _ (by simp; omega) k (by simp; omega), Option.bind_some, if_pos hr]
      simp [cw]
    · have h0 : (l.drop a).length ≠ 0 := fun e => hr (List.length_eq_zero_iff.mp e)
      have hg1 := pkLen_pos met (l.drop a)
      have hg2 := pkLen_le met hr
      have e := specPak_l1 l hb hl met hm (by omega) cs (by omega) a (by omega) (l.drop a).length 1 k (by omega) (by omega) (by omega) (by omega) (.inl rfl)
      rw [show ((1 : Nat) : Int) = 1 from rfl] at e
      rw [if_pos (by omega), e]
      change spec_PakPut.l0 (k - 1 - (pkLen met (l.drop a) - 1)) l (pkMet met (l.drop a) (pkLen met (l.drop a))) (cs ++ [⟨pkCode met ((l.drop a).take (pkLen met (l.drop a))), 9⟩]) ((a + pkLen met (l.drop a) : Nat) : Int) = _
      have hdl2 : (l.drop (a + pkLen met (l.drop a))).length = (l.drop a).length - pkLen met (l.drop a) := by rw [List.length_drop]; omega
      have hmm := pkMet_len met (l.drop a) (pkLen met (l.drop a))
      rw [ih (a + pkLen met (l.drop a)) _ _ _ (by omega) (by omega) (by omega) (by rw [List.length_append, List.length_singleton]; omega) (by omega) (fun t ht => by
        unfold pkMet at ht
        split at ht
        · rcases List.mem_append.mp ht with ht | ht
          · exact hm t ht
          · rw [List.mem_singleton.mp ht]; exact bytes_take (bytes_drop hb a) _
        · exact hm t ht)]
      conv => rhs; unfold pkEnc
      rw [if_neg hr, ← List.drop_drop]
      simp [cw]
theorem specPakPut_ok (l : List Int) (hb : Bytes l) (k : Nat) (hk : 6000 ≤ k) : spec_PakPut.f k l = some (pkPutR l) := by
  unfold spec_PakPut.f pkPutR
  by_cases h : (l.length : Int) > 200
  · rw [if_pos h, if_pos h]
  · rw [if_neg h, if_neg h]
    have e := specPak_l0 l hb (by omega) l.length 0 k [] [] (by simp) (by omega) (by simp; omega) (by simp; omega) (by simp; omega) (fun t ht => by cases ht)
    rw [show ((0 : Nat) : Int) = 0 from rfl, List.drop_zero, List.nil_append] at e
    exact e
theorem pkPutR_bytes (l : List Int) : Bytes (pkPutR l) := by
  unfold pkPutR
  split
  · exact bytes_nil
  · exact res_bytes _
theorem pkPutR_len (l : List Int) : (pkPutR l).length ≤ 400 := by
  unfold pkPutR
  split
  · simp
  · exact res_len _
end Go.Proofs.Ytfnkaccncmjnaaa.Pl
