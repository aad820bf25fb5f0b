/- The program's HexText of bytes is the reference's. The bytes are no more than 2^40. -/
import Derived.Test.YtmkiajoanblkbaaPl
import Derived.Test.YtmkiajoanblkbaaX0
import Derived.Test.YtmkiajoanblkbaaX44
import Derived.Test.YtmkiajoanblkbaaX47
namespace Go.Proofs.Ytmkiajoanblkbaa.Pl
open Go Go.RowKit Go.Proofs.Ytmkiajoanblkbaa.X Go.Proofs.YtmkiajoanblkbaaW.PrintWords Go.Proofs.YtmkiajoanblkbaaW.PrintLast Go.Proofs.YtmkiajoanblkbaaW.PrintMore

/-- The sign of a number below 16. -/
def hexS (d : Int) : Int := if d < 10 then 48 + d else 87 + d
/-- The signs of bytes. -/
def hexL (l : List Int) : List Int := l.flatMap fun x => [hexS (x / 16), hexS (x % 16)]
theorem hexL_snoc (l : List Int) (x : Int) : hexL (l ++ [x]) = hexL l ++ [hexS (x / 16), hexS (x % 16)] := by simp [hexL]
theorem hexL_length : ∀ l : List Int, (hexL l).length = 2 * l.length
  | [] => rfl
  | x :: l => by have := hexL_length l; simp [hexL] at this ⊢; omega
theorem nib (P : Int → Prop) (h : ∀ m : Nat, m < 16 → P m) (d : Int) (h0 : 0 ≤ d) (h1 : d ≤ 15) : P d := by
  obtain ⟨m, rfl⟩ := Int.eq_ofNat_of_zero_le h0
  exact h m (by omega)
theorem bt_hex (d : Int) (h0 : 0 ≤ d) (h1 : d ≤ 15) : bt (⟨#[48, 49, 50, 51, 52, 53, 54, 55, 56, 57, 97, 98, 99, 100, 101, 102]⟩ : ByteArray) d = hexS d := by
  refine nib (fun d => bt (⟨#[48, 49, 50, 51, 52, 53, 54, 55, 56, 57, 97, 98, 99, 100, 101, 102]⟩ : ByteArray) d = hexS d) ?_ d h0 h1
  decide
theorem hexD_one (d : Int) (h0 : 0 ≤ d) (h1 : d ≤ 15) : hexD.extract d.toNat (d + 1).toNat = strOfNums [hexS d] := by
  refine nib (fun d => hexD.extract d.toNat (d + 1).toNat = strOfNums [hexS d]) ?_ d h0 h1
  decide
theorem str_append (a b : List Int) : strOfNums (a ++ b) = strOfNums a ++ strOfNums b := by
  unfold strOfNums
  apply ByteArray.ext
  simp
theorem str_nil : strOfNums [] = ⟨#[]⟩ := by unfold strOfNums; rfl
theorem specHexText_ok (l : List Int) (hl : l.length ≤ 1099511627776) (hb : Bytes l) : spec_HexText.f l = some (strOfNums (hexL l)) := by
  unfold spec_HexText.f
  rw [if_pos ⟨hl, hb⟩]
  congr 1
  clear hl
  induction hn : l.length generalizing l with
  | zero => obtain rfl := List.eq_nil_of_length_eq_zero hn; exact str_nil.symm
  | succ n ih =>
    obtain ⟨m, x, rfl⟩ : ∃ m x, l = m ++ [x] := ⟨l.dropLast, l.getLast (by intro e; subst e; simp at hn), (List.dropLast_concat_getLast _).symm⟩
    have hx := hb x (by simp)
    obtain ⟨hx0, hx1⟩ := hx
    rw [spec_HexText.go_snoc, ih m (fun y hy => hb y (by simp [hy])) (by simpa using hn), hexL_snoc, hexD_one _ (by omega) (by omega), hexD_one _ (by omega) (by omega), str_append, show [hexS (x / 16), hexS (x % 16)] = [hexS (x / 16)] ++ [hexS (x % 16)] from rfl, str_append, ByteArray.append_assoc]
theorem and15 (x : Int) (h0 : 0 ≤ x) (h1 : x ≤ 255) : Go.bits .and .u8 x 15 = x % 16 := u8_and15 x h0 (by omega)
theorem hexText_l (l : List Int) (hl : l.length ≤ 1099511627776) (hb : Bytes l) : ∀ (d k i : Nat), i + d = l.length → d < k → impl_HexText.l0 k (hexL (l.take i)) l (l.length : Int) i = some (strOfNums (hexL l)) := by
  intro d
  induction d with
  | zero =>
    intro k i hd hk
    obtain ⟨k, rfl⟩ : ∃ q, k = q + 1 := ⟨k - 1, by omega⟩
    simp only [impl_HexText.l0]
    rw [if_neg (by omega), List.take_of_length_le (by omega)]
  | succ d ih =>
    intro k i hd hk
    obtain ⟨k, rfl⟩ : ∃ q, k = q + 1 := ⟨k - 1, by omega⟩
    simp only [impl_HexText.l0]
    obtain ⟨hx0, hx1⟩ := rd_byte hb (i : Int)
    rw [if_pos (by omega), if_pos (by omega), if_pos (by omega), if_pos (by omega), if_pos (by omega), and15 _ hx0 hx1, if_pos (by omega), if_pos (by omega), bt_hex _ (by omega) (by omega), bt_hex _ (by omega) (by omega)]
    simp only [Option.bind_some]
    have hlen := hexL_length (l.take i)
    rw [List.length_take] at hlen
    rw [if_pos (by simp only [List.length_cons, List.length_nil]; omega), w64 (by omega) (by omega)]
    have := ih k (i + 1) (by omega) (by omega)
    rw [take_snoc l i (by omega), hexL_snoc, ← rd_lt (show i < l.length by omega)] at this
    exact this
theorem implHexText_ok (l : List Int) (hl : l.length ≤ 1099511627776) (hb : Bytes l) (k : Nat) (hk : l.length < k) : impl_HexText.f k l = some (strOfNums (hexL l)) := by
  unfold impl_HexText.f
  rw [w64 (by omega) (by omega), if_pos (by omega), if_pos (by omega)]
  exact hexText_l l hl hb l.length k 0 (by omega) hk
end Go.Proofs.Ytmkiajoanblkbaa.Pl
