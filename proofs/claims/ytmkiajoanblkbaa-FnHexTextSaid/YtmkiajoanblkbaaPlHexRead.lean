/- What reading bytes from their signs comes to, in the program and in the reference: two signs a byte, none if one is no sign. No condition but that strings are no longer than memory holds. -/
import Derived.Test.YtmkiajoanblkbaaPl
import Derived.Test.YtmkiajoanblkbaaPlHexText
import Derived.Test.YtmkiajoanblkbaaX0
import Derived.Test.YtmkiajoanblkbaaX3
import Derived.Test.YtmkiajoanblkbaaX4
import Derived.Test.YtmkiajoanblkbaaX5
import Derived.Test.YtmkiajoanblkbaaX6
namespace Go.Proofs.Ytmkiajoanblkbaa.Pl
open Go Go.RowKit Go.Proofs.Ytmkiajoanblkbaa.X Go.Proofs.YtmkiajoanblkbaaW.PrintWords Go.Proofs.YtmkiajoanblkbaaW.PrintLast Go.Proofs.YtmkiajoanblkbaaW.PrintMore
/-- The value of a sign; -1, if it is none. -/
def hexV (c : Int) : Int := if 48 ≤ c ∧ c ≤ 57 then c - 48 else if 97 ≤ c ∧ c ≤ 102 then c - 87 else -1
theorem hexV_range (c : Int) : -1 ≤ hexV c ∧ hexV c ≤ 15 := by unfold hexV; split <;> (try split) <;> omega
theorem implHexValue_ok (c : Int) (hc : Byte c) (k : Nat) (hk : 1 ≤ k) : impl_hexValue.f k c = some (if hexV c < 0 then 0 else hexV c, decide (0 ≤ hexV c)) := by
  obtain ⟨h0, h1⟩ := hc
  obtain ⟨k, rfl⟩ : ∃ m, k = m + 1 := ⟨k - 1, by omega⟩
  unfold impl_hexValue.f hexV
  by_cases a : c ≥ 48
  · rw [if_pos a]
    simp only [impl_hexValue.j0]
    by_cases b : c ≤ 57
    · rw [if_pos (decide_eq_true b), if_pos (show 48 ≤ c ∧ c ≤ 57 from ⟨by omega, b⟩), if_neg (show ¬ c - 48 < 0 by omega), decide_eq_true (show 0 ≤ c - 48 by omega), show (c - 48) % 256 = c - 48 by omega]
    · rw [if_neg (show ¬ decide (c ≤ 57) = true from fun h => b (of_decide_eq_true h)), if_neg (show ¬ (48 ≤ c ∧ c ≤ 57) by omega)]
      by_cases d : c ≥ 97
      · rw [if_pos d]
        by_cases e : c ≤ 102
        · rw [if_pos e, if_pos (show 97 ≤ c ∧ c ≤ 102 from ⟨by omega, e⟩), if_neg (show ¬ c - 87 < 0 by omega), decide_eq_true (show 0 ≤ c - 87 by omega), show ((c - 97) % 256 + 10) % 256 = c - 87 by omega]
        · rw [if_neg e, if_neg (show ¬ (97 ≤ c ∧ c ≤ 102) by omega), if_pos (show (-1 : Int) < 0 by decide), decide_eq_false (show ¬ (0 : Int) ≤ -1 by decide)]
      · rw [if_neg d, if_neg (show ¬ (97 ≤ c ∧ c ≤ 102) by omega), if_pos (show (-1 : Int) < 0 by decide), decide_eq_false (show ¬ (0 : Int) ≤ -1 by decide)]
  · rw [if_neg a]
    simp only [impl_hexValue.j0]
    rw [if_neg (by decide), if_neg (show ¬ c ≥ 97 by omega), if_neg (show ¬ (48 ≤ c ∧ c ≤ 57) by omega), if_neg (show ¬ (97 ≤ c ∧ c ≤ 102) by omega), if_pos (show (-1 : Int) < 0 by decide), decide_eq_false (show ¬ (0 : Int) ≤ -1 by decide)]
theorem specDigit_ok (c : Int) (hc : Byte c) (k : Nat) (hk : 1 ≤ k) : spec_l1Digit.f k c = some (hexV c) := by
  obtain ⟨h0, h1⟩ := hc
  obtain ⟨k, rfl⟩ : ∃ m, k = m + 1 := ⟨k - 1, by omega⟩
  unfold spec_l1Digit.f hexV
  by_cases a : c ≥ 48
  · rw [if_pos a]
    simp only [spec_l1Digit.j0]
    by_cases b : c ≤ 57
    · rw [if_pos (decide_eq_true b), if_pos (show 48 ≤ c ∧ c ≤ 57 from ⟨by omega, b⟩), show (c - 48) % 256 = c - 48 by omega]
    · rw [if_neg (show ¬ decide (c ≤ 57) = true from fun h => b (of_decide_eq_true h)), if_neg (show ¬ (48 ≤ c ∧ c ≤ 57) by omega)]
      by_cases d : c ≥ 97
      · rw [if_pos d]
        by_cases e : c ≤ 102
        · rw [if_pos e, if_pos (show 97 ≤ c ∧ c ≤ 102 from ⟨by omega, e⟩), show (c - 97) % 256 + 10 = c - 87 by omega]
        · rw [if_neg e, if_neg (show ¬ (97 ≤ c ∧ c ≤ 102) by omega)]
      · rw [if_neg d, if_neg (show ¬ (97 ≤ c ∧ c ≤ 102) by omega)]
  · rw [if_neg a]
    simp only [spec_l1Digit.j0]
    rw [if_neg (by decide), if_neg (show ¬ c ≥ 97 by omega), if_neg (show ¬ (48 ≤ c ∧ c ≤ 57) by omega), if_neg (show ¬ (97 ≤ c ∧ c ≤ 102) by omega)]
/-- Bytes of signs, two each. -/
def readL : List Int → Option (List Int)
  | [] => some []
  | [_] => none
  | a :: b :: r => if hexV a < 0 ∨ hexV b < 0 then none else (readL r).map fun l => (hexV a * 16 + hexV b) :: l
def readR (x : List Int) (o : Option (List Int)) : List Int × Bool := match o with | none => ([], false) | some l => (x ++ l, true)
theorem bt_byte (s : ByteArray) (i : Int) : Byte (bt s i) := bt_range s i
theorem bytesOf_all (s : ByteArray) : Bytes (bytesOf s) := fun x hx => by
  unfold bytesOf at hx
  obtain ⟨b, _, rfl⟩ := List.mem_map.1 hx
  have := b.toNat_lt
  exact ⟨by omega, by omega⟩
theorem drop_two (s : ByteArray) (i : Nat) (h : i + 1 < s.size) : (bytesOf s).drop i = bt s (i : Int) :: bt s ((i : Int) + 1) :: (bytesOf s).drop (i + 2) := by
  have hl := bytesOf_length s
  rw [List.drop_eq_getElem_cons (show i < (bytesOf s).length by omega), List.drop_eq_getElem_cons (show i + 1 < (bytesOf s).length by omega), ← rd_lt, ← rd_lt, rd_bytesOf, rd_bytesOf, Int.natCast_add]; rfl
theorem or_hex (a b : Int) (ha : 0 ≤ a) (ha' : a ≤ 15) (hb : 0 ≤ b) (hb' : b ≤ 15) : Go.bits .or .u8 ((a * 16) % 256) b = a * 16 + b := by
  refine nib (fun a => Go.bits .or .u8 ((a * 16) % 256) b = a * 16 + b) ?_ a ha ha'
  intro m hm
  refine nib (fun b => Go.bits .or .u8 (((m : Int) * 16) % 256) b = (m : Int) * 16 + b) ?_ b hb hb'
  intro n hn
  revert m n
  decide +kernel
theorem implHexRead_l (s : ByteArray) (hs : s.size ≤ 140737488351232) : ∀ (d i k : Nat) (x : List Int), i + 2 * d = s.size → d + 1 < k → x.length ≤ i → impl_HexRead.l0 k s x (i : Int) = some (readR x (readL ((bytesOf s).drop i))) := by
  intro d
  induction d with
  | zero =>
    intro i k x hi hk _
    obtain ⟨k, rfl⟩ : ∃ m, k = m + 1 := ⟨k - 1, by omega⟩
    simp only [impl_HexRead.l0]
    rw [if_neg (by omega), List.drop_of_length_le (by rw [bytesOf_length]; omega)]
    simp [readL, readR]
  | succ d ih =>
    intro i k x hi hk hx
    obtain ⟨k, rfl⟩ : ∃ m, k = m + 1 := ⟨k - 1, by omega⟩
    have ha := hexV_range (bt s (i : Int))
    have hb := hexV_range (bt s ((i : Int) + 1))
    simp only [impl_HexRead.l0]
    rw [drop_two s i (by omega), if_pos (by omega), if_pos (by omega), implHexValue_ok _ (bt_byte _ _) k (by omega), Option.bind_some, w64 (x := (i : Int) + 1) (by omega) (by omega), if_pos (by omega), if_pos (by omega), implHexValue_ok _ (bt_byte _ _) k (by omega), Option.bind_some]
    simp only [readL]
    by_cases h1 : hexV (bt s (i : Int)) < 0
    · rw [if_neg (show ¬ decide (0 ≤ hexV (bt s (i : Int))) = true from fun h => by have := of_decide_eq_true h; omega), if_pos (Or.inl h1)]; rfl
    · rw [if_pos (show decide (0 ≤ hexV (bt s (i : Int))) = true from decide_eq_true (by omega))]
      by_cases h2 : hexV (bt s ((i : Int) + 1)) < 0
      · rw [if_neg (show ¬ decide (0 ≤ hexV (bt s ((i : Int) + 1))) = true from fun h => by have := of_decide_eq_true h; omega), if_pos (Or.inr h2)]; rfl
      · rw [if_pos (show decide (0 ≤ hexV (bt s ((i : Int) + 1))) = true from decide_eq_true (by omega)), if_neg (show ¬ (hexV (bt s (i : Int)) < 0 ∨ hexV (bt s ((i : Int) + 1)) < 0) by omega), if_neg h1, if_neg h2, if_pos (by omega), or_hex _ _ (by omega) (by omega) (by omega) (by omega), w64 (by omega) (by omega)]
        have e := ih (i + 2) k (x ++ [hexV (bt s (i : Int)) * 16 + hexV (bt s ((i : Int) + 1))]) (by omega) (by omega) (by rw [List.length_append, List.length_singleton]; omega)
        rw [Int.natCast_add] at e
        refine e.trans ?_
        cases readL ((bytesOf s).drop (i + 2)) with
        | none => rfl
        | some l => simp [readR]
theorem specHexRead_l (s : ByteArray) (hs : s.size ≤ 140737488351232) : ∀ (d i k : Nat) (x : List Int), i + 2 * d = s.size → d + 1 < k → x.length ≤ i → spec_HexRead.l0 k s x (i : Int) = some (readR x (readL ((bytesOf s).drop i))) := by
  intro d
  induction d with
  | zero =>
    intro i k x hi hk _
    obtain ⟨k, rfl⟩ : ∃ m, k = m + 1 := ⟨k - 1, by omega⟩
    simp only [spec_HexRead.l0]
    rw [if_neg (by omega), List.drop_of_length_le (by rw [bytesOf_length]; omega)]
    simp [readL, readR]
  | succ d ih =>
    intro i k x hi hk hx
    obtain ⟨k, rfl⟩ : ∃ m, k = m + 1 := ⟨k - 1, by omega⟩
    have ha := hexV_range (bt s (i : Int))
    have hb := hexV_range (bt s ((i : Int) + 1))
    simp only [spec_HexRead.l0]
    rw [drop_two s i (by omega), if_pos (by omega), if_pos (by omega), specDigit_ok _ (bt_byte _ _) k (by omega), Option.bind_some, w64 (x := (i : Int) + 1) (by omega) (by omega), if_pos (by omega), if_pos (by omega), specDigit_ok _ (bt_byte _ _) k (by omega), Option.bind_some]
    simp only [readL]
    by_cases h1 : hexV (bt s (i : Int)) < 0
    · rw [if_pos h1, if_pos (Or.inl h1)]; rfl
    · rw [if_neg h1]
      by_cases h2 : hexV (bt s ((i : Int) + 1)) < 0
      · rw [if_pos h2, if_pos (Or.inr h2)]; rfl
      · rw [if_neg h2, if_neg (show ¬ (hexV (bt s (i : Int)) < 0 ∨ hexV (bt s ((i : Int) + 1)) < 0) by omega), if_pos (by omega), w64 (x := hexV (bt s (i : Int)) * 16) (by omega) (by omega), w64 (x := hexV (bt s (i : Int)) * 16 + hexV (bt s ((i : Int) + 1))) (by omega) (by omega), w64 (x := (i : Int) + 2) (by omega) (by omega), show (hexV (bt s (i : Int)) * 16 + hexV (bt s ((i : Int) + 1))) % 256 = hexV (bt s (i : Int)) * 16 + hexV (bt s ((i : Int) + 1)) by omega]
        have e := ih (i + 2) k (x ++ [hexV (bt s (i : Int)) * 16 + hexV (bt s ((i : Int) + 1))]) (by omega) (by omega) (by rw [List.length_append, List.length_singleton]; omega)
        rw [Int.natCast_add] at e
        refine e.trans ?_
        cases readL ((bytesOf s).drop (i + 2)) with
        | none => rfl
        | some l => simp [readR]
def readS (s : ByteArray) : List Int × Bool := if s.size % 2 = 0 then readR [] (readL (bytesOf s)) else ([], false)
theorem implHexRead_ok (s : ByteArray) (hs : s.size ≤ 140737488351232) (k : Nat) (hk : s.size + 2 ≤ k) : impl_HexRead.f k s = some (readS s) := by
  unfold impl_HexRead.f readS
  by_cases h : s.size % 2 = 0
  · rw [if_pos (by omega), w64 (by omega) (by omega), if_pos (by omega), if_pos (by omega), if_pos h]
    exact implHexRead_l s hs (s.size / 2) 0 k [] (by omega) (by omega) (by simp)
  · rw [if_neg (by omega), if_neg h]
theorem specHexRead_ok (s : ByteArray) (hs : s.size ≤ 140737488351232) (k : Nat) (hk : s.size + 2 ≤ k) : spec_HexRead.f k s = some (readS s) := by
  unfold spec_HexRead.f readS
  rw [Option.bind_some]
  by_cases h : s.size % 2 = 0
  · rw [if_neg (by omega), if_pos h]
    exact specHexRead_l s hs (s.size / 2) 0 k [] (by omega) (by omega) (by simp)
  · rw [if_pos (by omega), if_neg h]
theorem readL_len : ∀ (n : Nat) (b l : List Int), b.length ≤ n → readL b = some l → b.length = 2 * l.length ∧ (Bytes b → Bytes l ∧ hexL l = b) := by
  intro n
  induction n with
  | zero =>
    intro b l hb h
    obtain rfl := List.eq_nil_of_length_eq_zero (Nat.le_zero.1 hb)
    simp only [readL, Option.some.injEq] at h
    subst h
    exact ⟨rfl, fun _ => ⟨bytes_nil, rfl⟩⟩
  | succ n ih =>
    intro b l hb h
    match b, h with
    | [], h =>
      simp only [readL, Option.some.injEq] at h
      subst h
      exact ⟨rfl, fun _ => ⟨bytes_nil, rfl⟩⟩
    | [_], h => simp [readL] at h
    | x :: y :: r, h =>
      simp only [readL] at h
      split at h
      · cases h
      · rename_i hn
        obtain ⟨m, hm, rfl⟩ := Option.map_eq_some_iff.1 h
        obtain ⟨h1, h2⟩ := ih r m (by simp only [List.length_cons] at hb; omega) hm
        have hx := hexV_range x
        have hy := hexV_range y
        refine ⟨by simp only [List.length_cons]; omega, fun hbb => ?_⟩
        obtain ⟨g1, g2⟩ := h2 (fun z hz => hbb z (by simp [hz]))
        refine ⟨fun z hz => ?_, ?_⟩
        · rcases List.mem_cons.1 hz with rfl | hz
          · exact ⟨by omega, by omega⟩
          · exact g1 z hz
        · have ex : hexS ((hexV x * 16 + hexV y) / 16) = x := by
            rw [show (hexV x * 16 + hexV y) / 16 = hexV x by omega]
            unfold hexS hexV at *
            split at hn <;> split <;> (try split) <;> omega
          have ey : hexS ((hexV x * 16 + hexV y) % 16) = y := by
            rw [show (hexV x * 16 + hexV y) % 16 = hexV y by omega]
            unfold hexS
            unfold hexV at hn hy ⊢
            split <;> (try split) <;> (try split) <;> omega
          show [hexS _, hexS _] ++ hexL m = _
          rw [ex, ey, g2]; rfl
theorem hexV_S (d : Int) (h0 : 0 ≤ d) (h1 : d ≤ 15) : hexV (hexS d) = d := by
  unfold hexV hexS
  split <;> split <;> (try split) <;> omega
theorem readL_hexL : ∀ (l : List Int), Bytes l → readL (hexL l) = some l
  | [], _ => rfl
  | x :: l, h => by
    obtain ⟨h0, h1⟩ := h x (by simp)
    have e := readL_hexL l (fun z hz => h z (by simp [hz]))
    show readL (hexS (x / 16) :: hexS (x % 16) :: hexL l) = _
    simp only [readL]
    rw [hexV_S _ (by omega) (by omega), hexV_S _ (by omega) (by omega), if_neg (by omega), e]
    simp only [Option.map_some, Option.some.injEq, List.cons.injEq, and_true]
    omega
end Go.Proofs.Ytmkiajoanblkbaa.Pl
