/- Packing by strings that were met, and unpacking, over lists of numbers alone: what packs, what unpacks, and that the one undoes the other. No condition but what each states. -/
import Derived.Test.YtfnkaccncmjnaaaPl
import Derived.Test.YtfnkaccncmjnaaaX0
import Derived.Test.YtfnkaccncmjnaaaX49
namespace Go.Proofs.Ytfnkaccncmjnaaa.Pl
open Go Go.RowKit Go.Proofs.Ytfnkaccncmjnaaa.X
theorem pkGrow_ge (met : List (List Int)) (r : List Int) : ∀ f n, n ≤ pkGrow met r f n
  | 0, n => Nat.le_refl n
  | f + 1, n => by
    unfold pkGrow
    split
    · exact Nat.le_trans (Nat.le_succ n) (pkGrow_ge met r f (n + 1))
    · exact Nat.le_refl n
theorem pkGrow_le (met : List (List Int)) (r : List Int) : ∀ f n, n ≤ r.length → pkGrow met r f n ≤ r.length
  | 0, n, h => h
  | f + 1, n, h => by
    unfold pkGrow
    split
    · rename_i hc; exact pkGrow_le met r f (n + 1) hc.1
    · exact h
/-- The string is met, or one number alone. -/
theorem pkGrow_mem (met : List (List Int)) (r : List Int) : ∀ f n, (n = 1 ∨ r.take n ∈ met) → (pkGrow met r f n = 1 ∨ r.take (pkGrow met r f n) ∈ met)
  | 0, n, h => h
  | f + 1, n, h => by
    unfold pkGrow
    split
    · rename_i hc; exact pkGrow_mem met r f (n + 1) (Or.inr hc.2)
    · exact h
/-- One more is not met. -/
theorem pkGrow_stop (met : List (List Int)) (r : List Int) : ∀ f n, r.length ≤ f + n → ¬ (pkGrow met r f n < r.length ∧ r.take (pkGrow met r f n + 1) ∈ met)
  | 0, n, h => by unfold pkGrow; intro hc; omega
  | f + 1, n, h => by
    unfold pkGrow
    split
    · exact pkGrow_stop met r f (n + 1) (by omega)
    · rename_i hc; exact hc
/-- The search goes on as far as it goes. -/
theorem pkGrow_eq (met : List (List Int)) (r : List Int) : ∀ f n m, n ≤ m → m ≤ f + n → (∀ i, n ≤ i → i < m → i < r.length ∧ r.take (i + 1) ∈ met) → ¬ (m < r.length ∧ r.take (m + 1) ∈ met) → pkGrow met r f n = m
  | 0, n, m, h1, h2, _, _ => by unfold pkGrow; omega
  | f + 1, n, m, h1, h2, h3, h4 => by
    unfold pkGrow
    rcases Nat.lt_or_ge n m with h | h
    · rw [if_pos (h3 n (Nat.le_refl n) h)]
      exact pkGrow_eq met r f (n + 1) m h (by omega) (fun i h5 h6 => h3 i (by omega) h6) h4
    · obtain rfl : n = m := by omega
      rw [if_neg h4]
theorem pkLen_pos (met : List (List Int)) (r : List Int) : 1 ≤ pkLen met r := pkGrow_ge met r r.length 1
theorem pkLen_le (met : List (List Int)) {r : List Int} (h : r ≠ []) : pkLen met r ≤ r.length := by
  have : r.length ≠ 0 := fun e => h (List.length_eq_zero_iff.mp e)
  exact pkGrow_le met r r.length 1 (by omega)
theorem pkLen_mem (met : List (List Int)) (r : List Int) : pkLen met r = 1 ∨ r.take (pkLen met r) ∈ met := pkGrow_mem met r r.length 1 (Or.inl rfl)
theorem pkLen_stop (met : List (List Int)) (r : List Int) : ¬ (pkLen met r < r.length ∧ r.take (pkLen met r + 1) ∈ met) := pkGrow_stop met r r.length 1 (by omega)
theorem pkAt_mem {met : List (List Int)} {s : List Int} (h : s ∈ met) : ∃ hk : pkAt met s < met.length, met[pkAt met s] = s := by
  have h1 : pkAt met s < met.length := List.findIdx_lt_length_of_exists ⟨s, h, beq_self_eq_true s⟩
  exact ⟨h1, eq_of_beq (List.findIdx_getElem (w := h1))⟩
theorem pkAt_none {met : List (List Int)} {s : List Int} (h : s ∉ met) : pkAt met s = met.length := by
  unfold pkAt
  rw [List.findIdx_eq_length]
  intro x hx
  cases hb : (x == s) with
  | false => rfl
  | true => exact absurd (eq_of_beq hb ▸ hx) h
theorem pkMet_len (met : List (List Int)) (r : List Int) (n : Nat) : (pkMet met r n).length ≤ met.length + 1 := by
  unfold pkMet; split <;> simp
/-- One step of unpacking: what was unpacked, what was met, and the last string. -/
def pkStep (_ : List Int) (met : List (List Int)) (last : List Int) (c : Int) : Option (List Int) :=
  if c < 256 then some [c] else if c - 257 < 0 then none else if c - 257 < (met.length : Int) then met[(c - 257).toNat]? else if c - 257 = (met.length : Int) ∧ last ≠ [] then some (last ++ [last.headD 0]) else none
def pkMore (met : List (List Int)) (last b : List Int) : List (List Int) := if last ≠ [] then met ++ [last ++ [b.headD 0]] else met
/-- Codes unpacked; nothing, if one is none, or there are too many bytes. -/
def pkDec : List Int → List Int → List (List Int) → List Int → Option (List Int)
  | [], o, _, _ => some o
  | c :: cs, o, met, last => (pkStep o met last c).bind fun b => if o.length + b.length ≤ 200 then pkDec cs (o ++ b) (pkMore met last b) b else none
theorem headD_append {l m : List Int} (h : l ≠ []) : (l ++ m).headD 0 = l.headD 0 := by
  cases l with
  | nil => exact absurd rfl h
  | cons x l => rfl
theorem headD_take {l : List Int} {n : Nat} (h : 1 ≤ n) : (l.take n).headD 0 = l.headD 0 := by
  cases l with
  | nil => simp
  | cons x l => obtain ⟨m, rfl⟩ : ∃ m, n = m + 1 := ⟨n - 1, by omega⟩; simp
theorem take_succ_drop {l : List Int} {n : Nat} (h : n < l.length) : l.take (n + 1) = l.take n ++ [(l.drop n).headD 0] := by
  rw [List.take_succ_eq_append_getElem h, List.drop_eq_getElem_cons h]; rfl
/-- What the packer has met is what the unpacker has, and one more, of the last string and the next number. -/
theorem pkDec_enc : ∀ (f : Nat) (r o : List Int) (met : List (List Int)) (last : List Int), r.length ≤ f → (∀ x ∈ r, 0 ≤ x ∧ x < 256) → o.length + r.length ≤ 200 → (∀ s ∈ met, s ≠ []) →
    pkDec (pkEnc f (if last ≠ [] ∧ r ≠ [] then met ++ [last ++ [r.headD 0]] else met) r) o met last = some (o ++ r)
  | 0, r, o, met, last, h, _, _, _ => by
    obtain rfl : r = [] := List.length_eq_zero_iff.mp (by omega)
    simp [pkEnc, pkDec]
  | f + 1, r, o, met, last, h, hb, ho, hm => by
    by_cases hr : r = []
    · subst hr; simp [pkEnc, pkDec]
    generalize hmE : (if last ≠ [] ∧ r ≠ [] then met ++ [last ++ [r.headD 0]] else met) = mE
    unfold pkEnc
    rw [if_neg hr]
    have h1 := pkLen_pos mE r
    have h2 := pkLen_le mE hr
    have h3 := pkLen_mem mE r
    generalize pkLen mE r = n at h1 h2 h3 ⊢
    have hs : r.take n ≠ [] := by
      intro e
      have := congrArg List.length e
      rw [List.length_take, List.length_nil] at this; omega
    have hsl : (r.take n).length = n := by rw [List.length_take]; omega
    have hstep : pkStep o met last (pkCode mE (r.take n)) = some (r.take n) := by
      unfold pkCode
      rw [hsl]
      by_cases hn : n = 1
      · subst hn
        rw [if_pos rfl, headD_take (Nat.le_refl 1)]
        cases r with
        | nil => exact absurd rfl hr
        | cons x r =>
          have := hb x (by simp)
          unfold pkStep
          rw [if_pos (by show x < 256; omega)]; rfl
      · rw [if_neg hn]
        have hmem : r.take n ∈ mE := h3.resolve_left hn
        obtain ⟨hk, he⟩ := pkAt_mem hmem
        unfold pkStep
        generalize pkAt mE (r.take n) = k at hk he
        rw [if_neg (by omega), if_neg (by omega), show (257 + (k : Int) - 257) = (k : Int) by omega]
        by_cases hkm : k < met.length
        · rw [if_pos (by omega), Int.toNat_natCast, List.getElem?_eq_getElem hkm]
          congr 1
          rw [← he]
          subst hmE
          split
          · rw [List.getElem_append_left hkm]
          · rfl
        · have hlast : last ≠ [] ∧ r ≠ [] := by
            refine Classical.byContradiction fun hc => ?_
            rw [if_neg hc] at hmE
            subst hmE
            exact hkm hk
          rw [if_pos hlast] at hmE
          have hke : k = met.length := by
            subst hmE; rw [List.length_append, List.length_singleton] at hk; omega
          subst hke
          subst hmE
          rw [if_neg (by omega), if_pos ⟨rfl, hlast.1⟩]
          have e2 : last ++ [r.headD 0] = r.take n := by
            rw [← he, List.getElem_append_right (Nat.le_refl _)]; simp
          rw [← e2]
          have e3 : r.headD 0 = last.headD 0 := by
            rw [← headD_take (l := r) h1, ← e2, headD_append hlast.1]
          rw [e3]
    unfold pkDec
    rw [hstep, Option.bind_some, hsl, if_pos (by omega)]
    have hmet : pkMet mE r n = (if r.take n ≠ [] ∧ r.drop n ≠ [] then pkMore met last (r.take n) ++ [r.take n ++ [(r.drop n).headD 0]] else pkMore met last (r.take n)) := by
      have hE : mE = pkMore met last (r.take n) := by
        unfold pkMore
        rw [headD_take h1, ← hmE]
        by_cases hl : last = []
        · simp [hl]
        · rw [if_pos ⟨hl, hr⟩, if_pos hl]
      unfold pkMet
      rw [← hE]
      by_cases hlt : n < r.length
      · rw [if_pos hlt, if_pos ⟨hs, by intro e; rw [List.drop_eq_nil_iff] at e; omega⟩, take_succ_drop hlt]
      · rw [if_neg hlt, if_neg (by intro hc; exact hc.2 (List.drop_eq_nil_iff.mpr (by omega)))]
    rw [hmet, pkDec_enc f (r.drop n) (o ++ r.take n) _ (r.take n) (by rw [List.length_drop]; omega) (fun x hx => hb x (List.mem_of_mem_drop hx)) (by rw [List.length_append, hsl, List.length_drop]; omega) ?_, List.append_assoc, List.take_append_drop]
    intro s hs2
    unfold pkMore at hs2
    split at hs2
    · rcases List.mem_append.mp hs2 with h4 | h4
      · exact hm s h4
      · rw [List.mem_singleton.mp h4]; simp
    · exact hm s hs2
theorem pkDec_codes (l : List Int) (h : ∀ x ∈ l, 0 ≤ x ∧ x < 256) (hl : l.length ≤ 200) : pkDec (pkCodes l) [] [] [] = some l := by
  have := pkDec_enc l.length l [] [] [] (Nat.le_refl _) h (by simpa using hl) (by simp)
  simpa [pkCodes] using this
/-- Each code is one of nine bits, and not the end's. -/
theorem pkEnc_code : ∀ (f : Nat) (met : List (List Int)) (r : List Int), r.length ≤ f → (∀ x ∈ r, 0 ≤ x ∧ x < 256) → met.length + r.length ≤ 255 → ∀ c ∈ pkEnc f met r, 0 ≤ c ∧ c < 512 ∧ c ≠ 256
  | 0, met, r, _, _, _, c, hc => by simp [pkEnc] at hc
  | f + 1, met, r, h, hb, hl, c, hc => by
    unfold pkEnc at hc
    by_cases hr : r = []
    · simp [hr] at hc
    rw [if_neg hr] at hc
    have h1 := pkLen_pos met r
    have h2 := pkLen_le met hr
    have h3 := pkLen_mem met r
    generalize pkLen met r = n at h1 h2 h3 hc
    rcases List.mem_cons.mp hc with rfl | hc
    · unfold pkCode
      have hsl : (r.take n).length = n := by rw [List.length_take]; omega
      rw [hsl]
      by_cases hn : n = 1
      · rw [if_pos hn, headD_take h1]
        cases r with
        | nil => exact absurd rfl hr
        | cons x r => have := hb x (by simp); show 0 ≤ x ∧ x < 512 ∧ x ≠ 256; omega
      · rw [if_neg hn]
        obtain ⟨hk, _⟩ := pkAt_mem (h3.resolve_left hn)
        have : r.length ≠ 0 := by omega
        omega
    · exact pkEnc_code f _ (r.drop n) (by rw [List.length_drop]; omega) (fun x hx => hb x (List.mem_of_mem_drop hx)) (by have := pkMet_len met r n; rw [List.length_drop]; omega) c hc
theorem pkEnc_len : ∀ (f : Nat) (met : List (List Int)) (r : List Int), r.length ≤ f → (pkEnc f met r).length ≤ r.length
  | 0, met, r, h => by simp [pkEnc]
  | f + 1, met, r, h => by
    unfold pkEnc
    by_cases hr : r = []
    · simp [hr]
    rw [if_neg hr, List.length_cons]
    have h1 := pkLen_pos met r
    have h2 := pkLen_le met hr
    have := pkEnc_len f (pkMet met r (pkLen met r)) (r.drop (pkLen met r)) (by rw [List.length_drop]; omega)
    rw [List.length_drop] at this
    omega
end Go.Proofs.Ytfnkaccncmjnaaa.Pl
