/- Numbers laid behind whole bytes lie behind them, whatever is drawn: the pure statement of the law FnBitJoin. No condition. -/
import Derived.Test.YtfnkaccncmjnaaaPlPutD
import Derived.Test.YtfnkaccncmjnaaaPlPutL
import Derived.Test.YtfnkaccncmjnaaaPlBytesD
import Derived.Test.YtfnkaccncmjnaaaPlStr
import Derived.Test.YtfnkaccncmjnaaaPlEaOk
import Derived.Test.YtfnkaccncmjnaaaX0
import Derived.Test.YtfnkaccncmjnaaaX32
import Derived.Test.YtfnkaccncmjnaaaX33
namespace Go.Proofs.Ytfnkaccncmjnaaa.Pure
open Go Go.RowKit Go.Proofs.Ytfnkaccncmjnaaa.X Go.Proofs.Ytfnkaccncmjnaaa.Pl Go.Proofs.YtfnkaccncmjnaaaW.PrintWords Go.Proofs.YtfnkaccncmjnaaaW.PrintLast Go.Proofs.YtfnkaccncmjnaaaW.PrintMore
theorem drawHex2_ok (l : List Int) (hb : Bytes l) : ∃ s, (∀ k, 20 ≤ k → spec_DrawHexText.f k l = some s) ∧ Bytes s ∧ (s.length : Int) ≤ 12 := by
  obtain ⟨c, ho, hc, hl, _⟩ := open_ok l hb
  obtain ⟨s, q, hs, hsb, hsl, hq0, hq1⟩ := bytes_ok c hc hl 0 12 (by omega) (by omega) (by omega) (by omega)
  refine ⟨s, fun k hk => ?_, hsb, hsl⟩
  unfold spec_DrawHexText.f
  rw [ho, Option.bind_some, hs k (by omega), Option.bind_some]
def byt8 (s : List Int) : List S36 := s.map fun x => ⟨x, 8⟩
theorem byt8_snoc (s : List Int) (x : Int) : byt8 (s ++ [x]) = byt8 s ++ [⟨x, 8⟩] := by simp [byt8]
theorem byt8_len (s : List Int) : (byt8 s).length = s.length := by simp [byt8]
theorem tb_byt8 (s : List Int) : tb (byt8 s) = 8 * s.length := by
  induction s with
  | nil => rfl
  | cons x s ih => simp only [byt8, List.map_cons, tb, List.length_cons] at ih ⊢; rw [ih]; omega
theorem putL_byt8 (s : List Int) (hs : Bytes s) : putL (byt8 s) [] 0 = s := by
  induction hn : s.length generalizing s with
  | zero => obtain rfl := List.eq_nil_of_length_eq_zero hn; rfl
  | succ n ih =>
    obtain ⟨m, x, rfl⟩ : ∃ m x, s = m ++ [x] := ⟨s.dropLast, s.getLast (by intro e; subst e; simp at hn), (List.dropLast_concat_getLast _).symm⟩
    rw [byt8_snoc, putL_append, ih m (fun y hy => hs y (by simp [hy])) (by simpa using hn), tb_byt8]
    simp only [putL]
    have := putN_ahead m [] 0 x 8
    rw [List.append_nil, Nat.add_zero, putN_byte x (hs x (by simp))] at this
    rw [Nat.zero_add]
    exact this
theorem byt8_ok (s : List Int) (hs : Bytes s) : ∀ x ∈ byt8 s, BitP x.f0 x.f1 := by
  intro x hx
  simp only [byt8, List.mem_map] at hx
  obtain ⟨y, hy, rfl⟩ := hx
  obtain ⟨h0, h1⟩ := hs y hy
  have e8 : (2 : Int) ^ (8 : Int).toNat = 256 := by decide
  exact ⟨show (1 : Int) ≤ 8 by decide, show (8 : Int) ≤ 12 by decide, h0, by show y < 2 ^ (8 : Int).toNat; rw [e8]; omega⟩
theorem byt8_l (s : List Int) (hs : Bytes s) (hl : (s.length : Int) ≤ 12) (xs : List S36) : ∀ (d i k : Nat), i + d = s.length → laws_FnBitJoin.l0 (k + d) s xs (byt8 (s.take i)) (i : Int) = laws_FnBitJoin.l0 k s xs (byt8 s) (s.length : Int) := by
  intro d
  induction d with
  | zero =>
    intro i k hi
    obtain rfl : i = s.length := by omega
    rw [List.take_of_length_le (by omega), Nat.add_zero]
  | succ d ih =>
    intro i k hi
    have e := ih (i + 1) k (by omega)
    obtain ⟨hx0, hx1⟩ := rd_byte hs (i : Int)
    rw [← e, ← Nat.add_assoc]
    simp only [laws_FnBitJoin.l0]
    have hlen : (byt8 (s.take i)).length ≤ 12 := by rw [byt8_len, List.length_take]; omega
    rw [if_pos (by omega), if_pos (by omega), if_pos (by omega), w64 (x := rd s (i : Int)) (by omega) (by omega), w64 (by omega) (by omega), take_snoc s i (by omega), byt8_snoc, ← rd_lt (show i < s.length by omega), show (i : Int) + 1 = ((i + 1 : Nat) : Int) by omega]
theorem FnBitJoin : laws_FnBitJoin.Pure := by
  intro l m _ hl hb _ hm hbm
  obtain ⟨s, hd, hs, hsl⟩ := drawHex2_ok l (bytes_wf hb)
  obtain ⟨xs, hd', hx⟩ := drawPut_ok m (bytes_wf hbm)
  obtain ⟨k, hk⟩ : ∃ k : Nat, 10000 ≤ k := ⟨10000, by omega⟩
  have hg8 : PutOk (byt8 s) 0 := ⟨byt8_ok s hs, by rw [tb_byt8]; omega⟩
  have h8 : res (byt8 s) [] 0 = s := by unfold res; rw [if_pos hg8, putL_byt8 s hs]
  have hxl := res_len xs
  have hj3 (k : Nat) (b : Bool) (L : List Int) (hL : b = false → L = s ++ res xs [] 0) (hLb : Bytes L) : laws_FnBitJoin.j3 (k + 1) s (res xs [] 0) L b = some true := by
    simp only [laws_FnBitJoin.j3]
    cases b with
    | true => rw [if_pos rfl, eaOk_ok, Option.bind_some]
    | false =>
      rw [if_neg (by decide), Option.bind_some, if_pos (by simp only [List.length_nil]; omega), Option.bind_some, if_pos (by simp only [List.length_append, List.length_nil]; omega), List.nil_append, hL rfl, eaBytes_self _ (bytes_append hs (res_bytes xs)), Option.bind_some]
  have hj2 (k : Nat) (hk : 9000 ≤ k) : laws_FnBitJoin.j2 (k + 1 + 1) xs (byt8 s) s (res xs [] 0) false = some true := by
    simp only [laws_FnBitJoin.j2]
    have hbl : (byt8 s).length ≤ 12 := by rw [byt8_len]; omega
    rw [if_neg (by decide), Option.bind_some, if_pos (by simp only [List.length_nil]; omega), Option.bind_some, if_pos (by simp only [List.length_append, List.length_nil]; omega), List.nil_append, implPut_ok (byt8 s ++ xs) (k + 1) (by rw [List.length_append]; omega), Option.bind_some]
    have hbb := res_bytes (byt8 s ++ xs)
    by_cases h0 : ((res xs [] 0).length : Int) = 0
    · rw [if_pos h0]
      exact hj3 k true _ (fun h => by cases h) hbb
    · rw [if_neg h0, w64 (by omega) (by omega)]
      by_cases h4 : (s.length : Int) + ((res xs [] 0).length : Int) > 400
      · rw [decide_eq_true h4]
        exact hj3 k true _ (fun h => by cases h) hbb
      · rw [decide_eq_false h4]
        refine hj3 k false _ (fun _ => ?_) hbb
        have hg : PutOk xs 0 := by
          unfold res at h0
          by_cases hg : PutOk xs 0
          · exact hg
          · rw [if_neg hg] at h0; simp at h0
        have hr : res xs [] 0 = putL xs [] 0 := by unfold res; rw [if_pos hg]
        have hlen := (inv_res xs hg).len
        rw [hr] at h4
        have hgg : PutOk (byt8 s ++ xs) 0 := ⟨fun x hx => by
          rcases List.mem_append.1 hx with hx | hx
          · exact byt8_ok s hs x hx
          · exact hg.1 x hx, by rw [tb_append, tb_byt8]; omega⟩
        unfold res
        rw [if_pos hgg, if_pos hg, putL_append, putL_byt8 s hs, tb_byt8, Nat.zero_add]
        have := putL_ahead s xs [] 0
        rw [List.append_nil, Nat.add_zero] at this
        exact this
  have hl0 (k : Nat) (hk : 9000 ≤ k) : laws_FnBitJoin.l0 (k + 1 + 1 + 1) s xs (byt8 s) (s.length : Int) = some true := by
    have hbl : (byt8 s).length ≤ 12 := by rw [byt8_len]; omega
    simp only [laws_FnBitJoin.l0]
    rw [if_neg (by omega), implPut_ok (byt8 s) (k + 1 + 1) (by omega), Option.bind_some, implPut_ok xs (k + 1 + 1) (by omega), Option.bind_some, h8, eaBytes_self s hs, Option.bind_some, if_pos rfl, specPut_ok xs (by omega) (k + 1 + 1) (by omega), Option.bind_some, eaBytes_self _ (res_bytes xs), Option.bind_some]
    exact hj2 k hk
  refine ⟨k + 1 + 1 + 1 + s.length + 1, ?_⟩
  have hj (b : Bool) : laws_FnBitJoin.j0 (k + 1 + 1 + 1 + s.length + 1) l m b = some true := by
    simp only [laws_FnBitJoin.j0]
    cases b with
    | true => rfl
    | false =>
      rw [if_neg (by decide), hd _ (by omega), Option.bind_some, hd' _ (by omega), Option.bind_some]
      have e := byt8_l s hs hsl xs s.length 0 (k + 1 + 1 + 1) (by omega)
      rw [hl0 k (by omega)] at e
      exact e
  unfold laws_FnBitJoin.f
  split
  · exact hj _
  · exact hj _
end Go.Proofs.Ytfnkaccncmjnaaa.Pure
