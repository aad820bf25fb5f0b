/- What the program's and the reference's unpacking of bytes come to: one and the same. The bytes are bytes, no more than 2^40. -/
import Derived.Test.YtfnkaccncmjnaaaPlPak
import Derived.Test.YtfnkaccncmjnaaaPlBitGet
import Derived.Test.YtfnkaccncmjnaaaX0
import Derived.Test.YtfnkaccncmjnaaaX27
import Derived.Test.YtfnkaccncmjnaaaX35
import Derived.Test.YtfnkaccncmjnaaaX36
import Derived.Test.YtfnkaccncmjnaaaX37
import Derived.Test.YtfnkaccncmjnaaaX40
import Derived.Test.YtfnkaccncmjnaaaX41
namespace Go.Proofs.Ytfnkaccncmjnaaa.Pl
open Go Go.RowKit Go.Proofs.Ytfnkaccncmjnaaa.X Go.Proofs.YtfnkaccncmjnaaaW.PrintWords Go.Proofs.YtfnkaccncmjnaaaW.PrintLast Go.Proofs.YtfnkaccncmjnaaaW.PrintMore
/-- Nothing but noughts of the last byte lies from a bit on. -/
def EndP (s : List Int) (u : Nat) : Prop := s.length = (u + 7) / 8 ∧ (u % 8 = 0 ∨ s.getD (u / 8) 0 / 2 ^ (u % 8) = 0)
instance (s : List Int) (u : Nat) : Decidable (EndP s u) := by unfold EndP; infer_instance
def pkNext (_ o : List Int) (met : List (List Int)) (last : List Int) (c : Int) (go : List Int → List (List Int) → List Int → List Int × Bool) : List Int × Bool :=
  match pkStep o met last c with
  | none => ([], false)
  | some b => if o.length + b.length ≤ 200 then go (o ++ b) (pkMore met last b) b else ([], false)
/-- Unpacking, code by code. -/
def pkRun (s : List Int) : Nat → Nat → List Int → List (List Int) → List Int → List Int × Bool
  | 0, _, _, _, _ => ([], false)
  | d + 1, a, o, met, last =>
    if GetP s (a : Int) 9 then
      if bitSum s a 9 = 256 then (if EndP s (a + 9) then (o, true) else ([], false))
      else pkNext s o met last (bitSum s a 9) (fun o met last => pkRun s d (a + 9) o met last)
    else ([], false)
def pkGetR (s : List Int) : List Int × Bool := pkRun s 201 0 [] [] []
/-- What was met so far: none is empty, and there are no more than bytes. -/
def MetP (o : List Int) (met : List (List Int)) (last : List Int) : Prop := (∀ s ∈ met, s ≠ []) ∧ met.length ≤ o.length ∧ o.length ≤ 200 ∧ (last = [] ↔ o = []) ∧ last.length ≤ o.length ∧ ∀ s ∈ met, s.length ≤ 201
theorem pow9 : (2 : Int) ^ 9 = 512 := by decide
theorem code_in (s : List Int) (a : Nat) : 0 ≤ bitSum s a 9 ∧ bitSum s a 9 < 512 := by have := bitSum_lt s a 9; rwa [pow9] at this
theorem step_ne {o : List Int} {met : List (List Int)} {last b : List Int} {c : Int} (hm : MetP o met last) (h : pkStep o met last c = some b) : b ≠ [] ∧ b.length ≤ 201 := by
  unfold pkStep at h
  split at h
  · injection h with h; subst h; simp
  · split at h
    · cases h
    · split at h
      · have := List.mem_of_getElem? h
        exact ⟨hm.1 _ this, hm.2.2.2.2.2 _ this⟩
      · split at h
        · injection h with h
          subst h
          have h1 := hm.2.2.2.2.1
          have h2 := hm.2.2.1
          exact ⟨by simp, by rw [List.length_append, List.length_singleton]; omega⟩
        · cases h
theorem metP_next {o : List Int} {met : List (List Int)} {last b : List Int} {c : Int} (hm : MetP o met last) (h : pkStep o met last c = some b) (hl : o.length + b.length ≤ 200) : MetP (o ++ b) (pkMore met last b) b := by
  obtain ⟨hb, hb2⟩ := step_ne hm h
  have hb1 : b.length ≠ 0 := fun e => hb (List.length_eq_zero_iff.mp e)
  obtain ⟨h1, h2, h3, h4, h5, h6⟩ := hm
  refine ⟨?_, ?_, by rw [List.length_append]; exact hl, ⟨fun e => absurd e hb, fun e => absurd (List.append_eq_nil_iff.mp e).2 hb⟩, by rw [List.length_append]; omega, ?_⟩
  · unfold pkMore
    split
    · intro s hs
      rcases List.mem_append.mp hs with hs | hs
      · exact h1 s hs
      · rw [List.mem_singleton.mp hs]; simp
    · exact h1
  · rw [List.length_append]
    unfold pkMore
    split
    · rw [List.length_append, List.length_singleton]; omega
    · omega
  · unfold pkMore
    split
    · intro s hs
      rcases List.mem_append.mp hs with hs | hs
      · exact h6 s hs
      · rw [List.mem_singleton.mp hs, List.length_append, List.length_singleton]; omega
    · exact h6
theorem metP_nil : MetP [] [] [] := ⟨(fun s h => absurd h List.not_mem_nil), Nat.le_refl _, by simp, Iff.rfl, Nat.le_refl _, (fun s h => absurd h List.not_mem_nil)⟩
/-! The program. -/
theorem implRead_ok (s : List Int) (hs : Bytes s) (hl : s.length ≤ 1099511627776) (a : Nat) (ha : a ≤ 4611686018427387904) (k : Nat) (hk : 14 ≤ k) :
    impl_bitReader_get.f k s (a : Int) false 9 = some (if GetP s (a : Int) 9 then (bitSum s a 9, ((a + 9 : Nat) : Int), false) else (0, (a : Int), true)) := by
  obtain ⟨k, rfl⟩ : ∃ m, k = m + 1 := ⟨k - 1, by omega⟩
  unfold impl_bitReader_get.f
  rw [if_neg (by decide), if_neg (by omega), if_neg (by decide), if_neg (by decide), w64 (x := 8 * (s.length : Int)) (by omega) (by omega), w64 (by omega) (by omega)]
  by_cases h4 : 8 * (s.length : Int) - (a : Int) < 9
  · rw [decide_eq_true h4, if_neg (fun h => by have := h.2.2.2; omega)]; simp [impl_bitReader_get.j0]
  · rw [decide_eq_false h4, if_pos ⟨by omega, by omega, by omega, by omega⟩]
    simp only [impl_bitReader_get.j0]
    rw [if_neg (by decide)]
    have := implGet_l s hs hl a 9 (by omega) (by omega) 9 0 k (by omega) (by omega)
    rw [show bitSum s a 0 = 0 from rfl, show ((a + 0 : Nat) : Int) = (a : Int) by simp, show ((0 : Nat) : Int) = 0 from rfl] at this
    exact this
theorem implTail_ok (s : List Int) (u : Nat) (hu : u ≤ 4611686018427387000) : impl_pakTail.f s (u : Int) = some (decide (EndP s u)) := by
  unfold impl_pakTail.f
  obtain ⟨hq, hr⟩ := bit_place u (by omega)
  rw [w64 (x := (u : Int) + 7) (by omega) (by omega), show (u : Int) + 7 = ((u + 7 : Nat) : Int) by omega, (bit_place (u + 7) (by omega)).1, hq, hr]
  by_cases h1 : s.length = (u + 7) / 8
  · rw [if_pos (by omega)]
    by_cases h2 : u % 8 = 0
    · rw [if_pos (by omega), decide_eq_true (show EndP s u from ⟨h1, .inl h2⟩)]
    · rw [if_neg (by omega), if_pos (by omega), if_pos (by omega), if_pos (by omega), shr_ok _ _ _ (by show u % 8 ≤ 8; omega), rd_nat]
      congr 1
      by_cases h3 : s.getD (u / 8) 0 / 2 ^ (u % 8) = 0
      · rw [decide_eq_true (show EndP s u from ⟨h1, .inr h3⟩), h3]; rfl
      · rw [decide_eq_false (show ¬ EndP s u from fun h => h.2.elim h2 h3)]
        exact beq_eq_false_iff_ne.mpr h3
  · rw [if_neg (by omega), decide_eq_false (show ¬ EndP s u from fun h => h1 h.1)]
/-- The strings so far, by where they stand in what was unpacked. -/
def SpotP (o : List Int) (sp : List S36) (met : List (List Int)) : Prop := sp.length = met.length ∧ ∀ (i : Nat) (x : S36) (s : List Int), sp[i]? = some x → met[i]? = some s → 0 ≤ x.f0 ∧ 1 ≤ x.f1 ∧ x.f0 + x.f1 ≤ (o.length : Int) ∧ s = (o.drop x.f0.toNat).take x.f1.toNat
theorem spotP_more {o b : List Int} {sp : List S36} {met : List (List Int)} (h : SpotP o sp met) : SpotP (o ++ b) sp met := by
  refine ⟨h.1, fun i x s hx hs => ?_⟩
  obtain ⟨h1, h2, h3, h4⟩ := h.2 i x s hx hs
  refine ⟨h1, h2, by rw [List.length_append]; omega, ?_⟩
  rw [h4, List.drop_append_of_le_length (by omega), List.take_append_of_le_length (by rw [List.length_drop]; omega)]
theorem drop_take_next (o : List Int) (a i : Nat) (h : a + i < o.length) : (o.drop a).take (i + 1) = (o.drop a).take i ++ [o[a + i]] := by
  rw [List.take_succ_eq_append_getElem (by rw [List.length_drop]; omega), List.getElem_drop]
theorem copy_in (o : List Int) (a : Nat) : ∀ (n i : Nat), a + i + n ≤ o.length → 2 * o.length ≤ 100000 → pk_copy (a : Int) n i (o ++ (o.drop a).take i) = some (o ++ (o.drop a).take (i + n))
  | 0, i, _, _ => rfl
  | n + 1, i, h, hl => by
    have hi : ((o.drop a).take i).length = i := by rw [List.length_take, List.length_drop]; omega
    unfold pk_copy
    rw [if_pos ⟨by omega, by rw [List.length_append, hi]; omega, by rw [List.length_append, hi]; omega⟩]
    have e : rd (o ++ (o.drop a).take i) ((a : Int) + (i : Int)) = o[a + i] := by
      rw [show (a : Int) + (i : Int) = ((a + i : Nat) : Int) by omega, rd_lt (by rw [List.length_append, hi]; omega), List.getElem_append_left (by omega)]
    rw [e, List.append_assoc, ← drop_take_next o a i (by omega), copy_in o a n (i + 1) (by omega) hl, show i + 1 + n = i + (n + 1) by omega]
theorem copy_over (o : List Int) (a : Nat) (ha : a < o.length) : ∀ (n i : Nat), a + i + n = o.length → 2 * o.length ≤ 100000 → pk_copy (a : Int) (n + 1) i (o ++ (o.drop a).take i) = some (o ++ (o.drop a ++ [(o.drop a).headD 0]))
  | 0, i, h, hl => by
    have hi : (o.drop a).take i = o.drop a := List.take_of_length_le (by rw [List.length_drop]; omega)
    have hd : (o.drop a).length = i := by rw [List.length_drop]; omega
    rw [hi]
    unfold pk_copy
    rw [if_pos ⟨by omega, by rw [List.length_append, hd]; omega, by rw [List.length_append, hd]; omega⟩]
    have e : rd (o ++ o.drop a) ((a : Int) + (i : Int)) = (o.drop a).headD 0 := by
      rw [show (a : Int) + (i : Int) = ((a + i : Nat) : Int) by omega, rd_nat, List.getD_eq_getElem?_getD, List.getElem?_append_right (by omega), show a + i - o.length = 0 by omega]
      cases o.drop a <;> rfl
    rw [e, List.append_assoc]
    rfl
  | n + 1, i, h, hl => by
    have hi : ((o.drop a).take i).length = i := by rw [List.length_take, List.length_drop]; omega
    unfold pk_copy
    rw [if_pos ⟨by omega, by rw [List.length_append, hi]; omega, by rw [List.length_append, hi]; omega⟩]
    have e : rd (o ++ (o.drop a).take i) ((a : Int) + (i : Int)) = o[a + i] := by
      rw [show (a : Int) + (i : Int) = ((a + i : Nat) : Int) by omega, rd_lt (by rw [List.length_append, hi]; omega), List.getElem_append_left (by omega)]
    rw [e, List.append_assoc, ← drop_take_next o a i (by omega)]
    exact copy_over o a ha n (i + 1) (by omega) hl
/-- One code, by the program. -/
theorem implTake_ok {o : List Int} {sp : List S36} {met : List (List Int)} {last : List Int} {la ls c : Int} (hs : SpotP o sp met) (hm : MetP o met last) (ha : 0 ≤ la ∧ 0 ≤ ls ∧ la + ls = (o.length : Int) ∧ last = o.drop la.toNat ∧ (o ≠ [] → la < (o.length : Int))) (hc0 : 0 ≤ c) (hc1 : c < 512) (hc2 : c ≠ 256) :
    ∃ r, pk_take o sp la ls c = some r ∧ (match pkStep o met last c with
      | none => r = none
      | some b => ∃ sp', r = some (o ++ b, sp') ∧ SpotP (o ++ b) sp' (pkMore met last b)) := by
  obtain ⟨a0, a1, a2, a3, a4⟩ := ha
  obtain ⟨m1, m2, m3, m4, m5, m6⟩ := hm
  have hsl := hs.1
  have hgl : pk_grow o sp la ls = if last ≠ [] then sp ++ [⟨la, ls + 1⟩] else sp := by
    unfold pk_grow
    by_cases ho : o = []
    · rw [if_neg (by rw [ho]; simp), if_neg (by simp [m4.mpr ho])]
    · have : o.length ≠ 0 := fun e => ho (List.length_eq_zero_iff.mp e)
      rw [if_pos ⟨by omega, by omega⟩, if_pos (fun e => ho (m4.mp e))]
  -- what is met behind the code
  have hnew : ∀ b : List Int, b ≠ [] → SpotP (o ++ b) (pk_grow o sp la ls) (pkMore met last b) := by
    intro b hb
    rw [hgl]
    unfold pkMore
    by_cases hl : last = []
    · rw [if_neg (by simp [hl]), if_neg (by simp [hl])]
      exact spotP_more hs
    · rw [if_pos hl, if_pos hl]
      refine ⟨by simp [hsl], fun i x s hx hs2 => ?_⟩
      have hb1 : b.length ≠ 0 := fun e => hb (List.length_eq_zero_iff.mp e)
      by_cases hi : i < sp.length
      · rw [List.getElem?_append_left hi] at hx
        rw [List.getElem?_append_left (by omega)] at hs2
        exact (spotP_more hs).2 i x s hx hs2
      · by_cases hi2 : i = sp.length
        · subst hi2
          rw [List.getElem?_append_right (Nat.le_refl _)] at hx
          rw [hsl, List.getElem?_append_right (Nat.le_refl _)] at hs2
          simp only [Nat.sub_self, List.getElem?_cons_zero, Option.some.injEq] at hx hs2
          subst hx hs2
          refine ⟨a0, by show 1 ≤ ls + 1; omega, by rw [List.length_append]; show la + (ls + 1) ≤ _; omega, ?_⟩
          show last ++ [b.headD 0] = ((o ++ b).drop la.toNat).take (ls + 1).toNat
          rw [List.drop_append_of_le_length (by omega), ← a3]
          have hll : last.length = ls.toNat := by rw [a3, List.length_drop]; omega
          rw [show (ls + 1).toNat = last.length + 1 by omega, List.take_append, List.take_of_length_le (by omega), show last.length + 1 - last.length = 1 by omega]
          cases b with
          | nil => exact absurd rfl hb
          | cons y b => rfl
        · rw [List.getElem?_eq_none (by simp; omega)] at hx; cases hx
  unfold pk_take
  rw [if_pos ⟨a0, by omega, a1, by omega, by omega, by omega, hc0, by omega⟩]
  by_cases h1 : c < 256
  · rw [if_pos h1]
    refine ⟨_, rfl, ?_⟩
    unfold pkStep
    rw [if_pos h1]
    exact ⟨_, rfl, hnew [c] (by simp)⟩
  · rw [if_neg h1]
    have hglen : (pk_grow o sp la ls).length = if last ≠ [] then met.length + 1 else met.length := by
      rw [hgl]; split <;> simp [hsl]
    unfold pkStep
    rw [if_neg h1, if_neg (show ¬ c - 257 < 0 by omega)]
    obtain ⟨j, hj⟩ : ∃ j : Nat, c - 257 = (j : Int) := ⟨(c - 257).toNat, by omega⟩
    rw [hj]
    by_cases h2 : j < met.length
    · have hgj : (pk_grow o sp la ls)[j]? = sp[j]? := by
        rw [hgl]; split
        · rw [List.getElem?_append_left (by omega)]
        · rfl
      have hsj : sp[j]? = some sp[j] := List.getElem?_eq_getElem (by omega)
      have hmj : met[j]? = some met[j] := List.getElem?_eq_getElem h2
      obtain ⟨f0, f1, f2, f3⟩ := hs.2 j _ _ hsj hmj
      have hrd : rd_T36 (pk_grow o sp la ls) (j : Int) = sp[j] := by
        unfold rd_T36
        rw [Int.toNat_natCast, List.getD_eq_getElem?_getD, hgj, hsj]; rfl
      rw [if_pos (show (j : Int) < (met.length : Int) by omega), Int.toNat_natCast, hmj, if_pos (show 257 ≤ c ∧ (j : Int) < ((pk_grow o sp la ls).length : Int) from ⟨by omega, by rw [hglen]; split <;> omega⟩), hrd, if_pos (show 0 ≤ sp[j].f1 ∧ sp[j].f1 ≤ 1000 from ⟨by omega, by omega⟩)]
      have hcp := copy_in o sp[j].f0.toNat sp[j].f1.toNat 0 (by omega) (by omega)
      rw [List.take_zero, List.append_nil, Nat.zero_add, ← f3, Int.toNat_of_nonneg f0] at hcp
      rw [hcp, Option.bind_some]
      exact ⟨_, rfl, _, rfl, hnew _ (m1 _ (List.getElem_mem h2))⟩
    · rw [if_neg (show ¬ (j : Int) < (met.length : Int) by omega)]
      by_cases h3 : j = met.length ∧ last ≠ []
      · obtain ⟨rfl, h4⟩ := h3
        have ho : o ≠ [] := fun e => h4 (m4.mpr e)
        have hla := a4 ho
        have hrd : rd_T36 (pk_grow o sp la ls) (met.length : Int) = ⟨la, ls + 1⟩ := by
          unfold rd_T36
          rw [Int.toNat_natCast, List.getD_eq_getElem?_getD, hgl, if_pos h4, ← hsl, List.getElem?_append_right (Nat.le_refl _), Nat.sub_self]; rfl
        rw [if_pos (show (met.length : Int) = (met.length : Int) ∧ last ≠ [] from ⟨rfl, h4⟩), if_pos (show 257 ≤ c ∧ (met.length : Int) < ((pk_grow o sp la ls).length : Int) from ⟨by omega, by rw [hglen, if_pos h4]; omega⟩), hrd, if_pos (show 0 ≤ ls + 1 ∧ ls + 1 ≤ 1000 from ⟨by omega, by omega⟩)]
        dsimp only
        have hcp := copy_over o la.toNat (by omega) ls.toNat 0 (by omega) (by omega)
        rw [List.take_zero, List.append_nil, ← a3, Int.toNat_of_nonneg a0] at hcp
        rw [show (ls + 1).toNat = ls.toNat + 1 by omega, hcp, Option.bind_some]
        exact ⟨_, rfl, _, rfl, hnew _ (by simp)⟩
      · rw [if_neg (show ¬ ((j : Int) = (met.length : Int) ∧ last ≠ []) from fun h => h3 ⟨by omega, h.2⟩), if_neg (show ¬ (257 ≤ c ∧ (j : Int) < ((pk_grow o sp la ls).length : Int)) from fun h => h3 (by
          have h5 := h.2
          rw [hglen] at h5
          by_cases hl : last ≠ []
          · rw [if_pos hl] at h5; exact ⟨by omega, hl⟩
          · rw [if_neg hl] at h5; omega))]
        exact ⟨_, rfl, rfl⟩
theorem implRun_ok (s : List Int) (hs : Bytes s) (hl : s.length ≤ 1099511627776) : ∀ (d a k : Nat) (o : List Int) (sp : List S36) (met : List (List Int)) (last : List Int) (la ls : Int), o.length + d ≥ 201 → a ≤ 1000000 - 9 * d → d ≤ 201 → 2 * d + 20 ≤ k →
    SpotP o sp met → MetP o met last → (0 ≤ la ∧ 0 ≤ ls ∧ la + ls = (o.length : Int) ∧ last = o.drop la.toNat ∧ (o ≠ [] → la < (o.length : Int))) → impl_PakGet.l0 k s (a : Int) false o sp la ls = some (pkRun s d a o met last) := by
  intro d
  induction d with
  | zero =>
    intro a k o sp met last la ls h1 _ _ _ _ hm _
    have := hm.2.2.1
    omega
  | succ d ih =>
    intro a k o sp met last la ls h1 h2 h3 hk hsp hm ha
    obtain ⟨k, rfl⟩ : ∃ m, k = m + 1 + 1 := ⟨k - 2, by omega⟩
    simp only [impl_PakGet.l0]
    unfold pkRun
    rw [implRead_ok s hs hl a (by omega) (k + 1) (by omega), Option.bind_some]
    by_cases hg : GetP s (a : Int) 9
    · rw [if_pos hg, if_pos hg, if_neg Bool.false_ne_true]
      by_cases h6 : bitSum s a 9 = 256
      · rw [if_pos h6, if_pos h6, implTail_ok s (a + 9) (by omega), Option.bind_some]
        by_cases he : EndP s (a + 9)
        · rw [decide_eq_true he, if_pos rfl, if_pos he]
        · rw [decide_eq_false he, if_neg (by decide), if_neg he]
      · rw [if_neg h6, if_neg h6]
        obtain ⟨c0, c1⟩ := code_in s a
        obtain ⟨r, hr, hst⟩ := implTake_ok hsp hm ha c0 c1 h6
        have hn : ∀ b, pkStep o met last (bitSum s a 9) = some b → b ≠ [] := fun b hb => (step_ne hm hb).1
        have hmn : ∀ b, pkStep o met last (bitSum s a 9) = some b → o.length + b.length ≤ 200 → MetP (o ++ b) (pkMore met last b) b := fun b hb => metP_next hm hb
        rw [hr, Option.bind_some]
        simp only [impl_PakGet.j0]
        unfold pkNext
        generalize pkStep o met last (bitSum s a 9) = st at hst hn hmn
        cases st with
        | none =>
          dsimp only at hst
          subst hst
          rfl
        | some b =>
          dsimp only at hst ⊢
          obtain ⟨sp', rfl, hsp'⟩ := hst
          have hb := hn b rfl
          have hb1 : b.length ≠ 0 := fun e => hb (List.length_eq_zero_iff.mp e)
          by_cases hf : o.length + b.length ≤ 200
          · rw [if_pos hf, if_pos (show pk_fits (some (o ++ b, sp')) = true from decide_eq_true (by rw [List.length_append]; omega))]
            show impl_PakGet.l0 k s ((a + 9 : Nat) : Int) false (o ++ b) sp' (o.length : Int) (((o ++ b).length : Int) - (o.length : Int)) = _
            exact ih (a + 9) k (o ++ b) sp' _ b _ _ (by rw [List.length_append]; omega) (by omega) (by omega) (by omega) hsp' (hmn b rfl hf) ⟨by omega, by rw [List.length_append]; omega, by omega, by simp, fun _ => by rw [List.length_append]; omega⟩
          · rw [if_neg hf, if_neg (show ¬ pk_fits (some (o ++ b, sp')) = true from fun h => hf (by have := of_decide_eq_true h; rw [List.length_append] at this; omega))]
    · rw [if_neg hg, if_neg hg, if_pos rfl]
theorem implPakGet_ok (s : List Int) (hs : Bytes s) (hl : s.length ≤ 1099511627776) (k : Nat) (hk : 500 ≤ k) : impl_PakGet.f k s = some (pkGetR s) := by
  unfold impl_PakGet.f
  exact implRun_ok s hs hl 201 0 k [] [] [] [] 0 0 (by simp) (by omega) (by omega) (by omega) ⟨rfl, fun i x s hx _ => by simp at hx⟩ metP_nil ⟨by omega, by omega, rfl, rfl, fun h => absurd rfl h⟩
/-! The reference. -/
open Classical in
theorem specRest_l (s : List Int) (hs : Bytes s) (hl : s.length ≤ 1099511627776) : ∀ (d u k : Nat), u + d = 8 * s.length → d < k → spec_l4Rest.l0 k s (u : Int) = some (decide (∀ j, u ≤ j → j < 8 * s.length → bitAt s j = 0)) := by
  intro d
  induction d with
  | zero =>
    intro u k hu hk
    obtain ⟨k, rfl⟩ : ∃ m, k = m + 1 := ⟨k - 1, by omega⟩
    simp only [spec_l4Rest.l0]
    rw [w64 (by omega) (by omega), if_neg (by omega), decide_eq_true (show ∀ j, u ≤ j → j < 8 * s.length → bitAt s j = 0 from fun j h1 h2 => absurd h2 (by omega))]
  | succ d ih =>
    intro u k hu hk
    obtain ⟨k, rfl⟩ : ∃ m, k = m + 1 := ⟨k - 1, by omega⟩
    obtain ⟨hq, hr⟩ := bit_place u (by omega)
    have hdb := div_byte (getD_byte hs (u / 8)) (u % 8)
    simp only [spec_l4Rest.l0]
    rw [w64 (x := 8 * _) (by omega) (by omega), if_pos (by omega), hq, hr, if_pos (by omega), if_pos (by omega), if_pos (by omega), shr_ok _ _ _ (by show u % 8 ≤ 8; omega), rd_nat, Int.tmod_eq_emod_of_nonneg hdb.1, w64 (by omega) (by omega), show (u : Int) + 1 = ((u + 1 : Nat) : Int) by omega]
    have h01 := bitAt_01 s u
    by_cases hb : s.getD (u / 8) 0 / 2 ^ (u % 8) % 2 = 1
    · rw [if_pos hb, decide_eq_false (show ¬ ∀ j, u ≤ j → j < 8 * s.length → bitAt s j = 0 from fun h => by have := h u (Nat.le_refl _) (by omega); unfold bitAt at this; omega)]
    · rw [if_neg hb, ih (u + 1) k (by omega) (by omega)]
      have h0 : bitAt s u = 0 := by unfold bitAt at h01 ⊢; omega
      congr 1
      apply decide_eq_decide.mpr
      exact ⟨fun h j h1 h2 => by
        by_cases e : j = u
        · rw [e]; exact h0
        · exact h j (by omega) h2, fun h j h1 h2 => h j (by omega) h2⟩
theorem bits_zero {x : Int} (h : Byte x) (m : Nat) (hm : m ≤ 8) (hz : ∀ t, m ≤ t → t < 8 → x / 2 ^ t % 2 = 0) : x / 2 ^ m = 0 := by
  obtain ⟨h0, h1⟩ := h
  obtain ⟨d, hd⟩ : ∃ d, m + d = 8 := ⟨8 - m, by omega⟩
  induction d generalizing m with
  | zero =>
    obtain rfl : m = 8 := by omega
    exact Int.ediv_eq_zero_of_lt h0 (by show x < 256; omega)
  | succ d ih =>
    have h2 := ih (m + 1) (by omega) (fun t h3 h4 => hz t (by omega) h4) (by omega)
    have h3 := hz m (Nat.le_refl _) (by omega)
    rw [pow_succ', Int.mul_comm, ← Int.ediv_ediv_of_nonneg (by have := pow_pos' m; omega)] at h2
    omega
theorem rest_iff (s : List Int) (hs : Bytes s) (u : Nat) (h : s.length = (u + 7) / 8) : (∀ j, u ≤ j → j < 8 * s.length → bitAt s j = 0) ↔ (u % 8 = 0 ∨ s.getD (u / 8) 0 / 2 ^ (u % 8) = 0) := by
  constructor
  · intro hz
    by_cases h8 : u % 8 = 0
    · exact .inl h8
    · refine .inr (bits_zero (getD_byte hs _) _ (by omega) (fun t h1 h2 => ?_))
      have := hz (u / 8 * 8 + t) (by omega) (by omega)
      unfold bitAt at this
      rwa [show (u / 8 * 8 + t) / 8 = u / 8 by omega, show (u / 8 * 8 + t) % 8 = t by omega] at this
  · rintro hz j h1 h2
    rcases hz with hz | hz
    · omega
    · unfold bitAt
      have hj : j / 8 = u / 8 := by omega
      obtain ⟨e, he⟩ : ∃ e, j % 8 = u % 8 + e := ⟨j % 8 - u % 8, by omega⟩
      rw [hj, he, Int.pow_add, ← Int.ediv_ediv_of_nonneg (by have := pow_pos' (u % 8); omega), hz]
      simp
theorem specL4_ok {o : List Int} {met : List (List Int)} {last : List Int} {c : Int} (hm : MetP o met last) (hc0 : 0 ≤ c) (hc1 : c < 512) (hc2 : c ≠ 256) : spec_l4Bytes.f met last c = some ((pkStep o met last c).getD []) := by
  obtain ⟨m1, m2, m3, m4, m5, m6⟩ := hm
  unfold spec_l4Bytes.f pkStep
  by_cases h1 : c < 256
  · rw [if_pos h1, if_pos h1, show c % 256 = c by omega]; rfl
  · rw [if_neg h1, if_neg h1, if_neg (show ¬ c - 257 < 0 by omega), w64 (x := c - 257) (by omega) (by omega)]
    obtain ⟨j, hj⟩ : ∃ j : Nat, c - 257 = (j : Int) := ⟨(c - 257).toNat, by omega⟩
    rw [hj]
    by_cases h2 : (j : Int) < (met.length : Int)
    · rw [if_pos h2, if_pos h2, if_pos (by omega), Int.toNat_natCast, List.getElem?_eq_getElem (by omega)]
      unfold rd_L4
      rw [Int.toNat_natCast, List.getD_eq_getElem?_getD, List.getElem?_eq_getElem (by omega)]
    · rw [if_neg h2, if_neg h2]
      by_cases h3 : (j : Int) = (met.length : Int)
      · rw [if_pos h3]
        by_cases h4 : last = []
        · subst h4
          rw [if_neg (by simp), if_neg (fun h => h.2 rfl)]; rfl
        · have h5 : last.length ≠ 0 := fun e => h4 (List.length_eq_zero_iff.mp e)
          rw [if_pos (by omega), if_pos (by omega), if_pos ⟨h3, h4⟩, Option.bind_some, if_pos (by simp; omega), Option.bind_some, if_pos (by omega), Option.bind_some, if_pos (by simp; omega)]
          simp only [List.nil_append, Option.getD_some]
          congr 3
          cases last with
          | nil => exact absurd rfl h4
          | cons x l => rfl
      · rw [if_neg h3, if_neg (fun h => h3 h.1)]; rfl
open Classical in
set_option maxRecDepth 20000 in
theorem specRun_ok (s : List Int) (hs : Bytes s) (hl : s.length ≤ 1099511627776) : ∀ (d a k : Nat) (o : List Int) (met : List (List Int)) (last : List Int), o.length + d ≥ 201 → a + 9 * d = 1809 → 2 * d + 2000 ≤ k →
    MetP o met last → spec_PakGet.l0 k s o met last (a : Int) = some (pkRun s d a o met last) := by
  intro d
  induction d with
  | zero =>
    intro a k o met last h1 _ _ hm
    have := hm.2.2.1
    omega
  | succ d ih =>
    intro a k o met last h1 h2 hk hm
    obtain ⟨k, rfl⟩ : ∃ m, k = m + 1 + 1 := ⟨k - 2, by omega⟩
    have m2 := hm.2.1
    have m3 := hm.2.2.1
    simp only [spec_PakGet.l0]
    unfold pkRun
    rw [if_pos (by omega), specGet_ok s hs hl _ _ (k + 1) (by omega), Option.bind_some]
    unfold getR
    by_cases hg : GetP s (a : Int) 9
    · rw [if_pos hg, if_pos hg, if_pos rfl]
      dsimp only
      rw [Int.toNat_natCast, show (9 : Int).toNat = 9 from rfl]
      have hgl := hg.2.2.2
      by_cases h6 : bitSum s a 9 = 256
      · rw [if_pos h6, if_pos h6, w64 (x := (a : Int) + 9) (by omega) (by omega), w64 (x := (a : Int) + 9 + 7) (by omega) (by omega), show (a : Int) + 9 + 7 = ((a + 9 + 7 : Nat) : Int) by omega, (bit_place (a + 9 + 7) (by omega)).1]
        by_cases he : s.length = (a + 9 + 7) / 8
        · rw [if_pos (by omega)]
          unfold spec_l4Rest.f
          rw [show (a : Int) + 9 = ((a + 9 : Nat) : Int) by omega, specRest_l s hs hl (8 * s.length - (a + 9)) (a + 9) (k + 1) (by omega) (by omega), Option.bind_some]
          by_cases hz : ∀ j, a + 9 ≤ j → j < 8 * s.length → bitAt s j = 0
          · rw [decide_eq_true hz, if_pos rfl, if_pos (show EndP s (a + 9) from ⟨he, (rest_iff s hs _ he).mp hz⟩)]
          · rw [decide_eq_false hz, if_neg (by decide), if_neg (show ¬ EndP s (a + 9) from fun h => hz ((rest_iff s hs _ he).mpr h.2))]
        · rw [if_neg (by omega), if_neg (show ¬ EndP s (a + 9) from fun h => he h.1)]
      · rw [if_neg h6, if_neg h6]
        obtain ⟨c0, c1⟩ := code_in s a
        have hn : ∀ b, pkStep o met last (bitSum s a 9) = some b → b ≠ [] ∧ b.length ≤ 201 := fun b hb => step_ne hm hb
        have hmn : ∀ b, pkStep o met last (bitSum s a 9) = some b → o.length + b.length ≤ 200 → MetP (o ++ b) (pkMore met last b) b := fun b hb => metP_next hm hb
        rw [specL4_ok hm c0 c1 h6, Option.bind_some]
        unfold pkNext
        generalize pkStep o met last (bitSum s a 9) = st at hn hmn
        cases st with
        | none =>
          rw [Option.getD_none, if_pos (show (([] : List Int).length : Int) = 0 from rfl)]
          simp only [spec_PakGet.j1]
          rw [if_pos trivial]
        | some b =>
          obtain ⟨hb, hb2⟩ := hn b rfl
          have hb1 : b.length ≠ 0 := fun e => hb (List.length_eq_zero_iff.mp e)
          have hmb := hmn b rfl
          clear hn hmn
          rw [Option.getD_some]
          dsimp only
          have q1 : ¬ (b.length : Int) = 0 := by omega
          have q2 : wrap64 ((o.length : Int) + (b.length : Int)) = (o.length : Int) + (b.length : Int) := w64 (by omega) (by omega)
          rw [if_neg q1, q2]
          simp only [spec_PakGet.j1]
          by_cases hf : o.length + b.length ≤ 200
          · rw [if_pos hf, decide_eq_false (by omega), if_neg (by decide), if_pos (by omega), Option.bind_some, w64 (x := (a : Int) + 9) (by omega) (by omega), show (a : Int) + 9 = ((a + 9 : Nat) : Int) by omega]
            have e := ih (a + 9) k (o ++ b) (pkMore met last b) b (by rw [List.length_append]; omega) (by omega) (by omega) (hmb hf)
            by_cases hl2 : last = []
            · have hpm : pkMore met last b = met := by unfold pkMore; rw [if_neg (by simp [hl2])]
              rw [hpm] at e ⊢
              rw [if_neg (by rw [hl2]; simp)]
              exact e
            · have h5 : last.length ≠ 0 := fun e => hl2 (List.length_eq_zero_iff.mp e)
              have h7 := hm.2.2.2.2.1
              have hpm : pkMore met last b = met ++ [last ++ [b.headD 0]] := by unfold pkMore; rw [if_pos hl2]
              rw [if_pos (by omega), w64 (by omega) (by omega), if_pos (by omega), Option.bind_some, if_pos (by simp; omega), Option.bind_some, if_pos (by omega), Option.bind_some, if_pos (by simp; omega), Option.bind_some, if_pos (by simp; omega)]
              rw [hpm] at e ⊢
              rw [List.nil_append, show rd b 0 = b.headD 0 from by cases b with | nil => exact absurd rfl hb | cons x b => rfl]
              exact e
          · rw [if_neg hf, decide_eq_true (by omega), if_pos rfl]
    · rw [if_neg hg, if_neg hg, if_neg (by decide)]
theorem specPakGet_ok (s : List Int) (hs : Bytes s) (hl : s.length ≤ 1099511627776) (k : Nat) (hk : 3000 ≤ k) : spec_PakGet.f k s = some (pkGetR s) := by
  unfold spec_PakGet.f
  exact specRun_ok s hs hl 201 0 k [] [] [] (by simp) (by omega) (by omega) metP_nil
end Go.Proofs.Ytfnkaccncmjnaaa.Pl
