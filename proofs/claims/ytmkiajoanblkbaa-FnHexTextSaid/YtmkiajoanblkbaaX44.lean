/- Functions of the given program as plain Lean functions, and for each the proof that the machine's call comes to what its function says. No condition but what each theorem states. Written by a program of this session. -/
import Derived.Test.YtmkiajoanblkbaaX0
namespace Go.Proofs.Ytmkiajoanblkbaa.X
open Go.RowKit Go.Proofs.YtmkiajoanblkbaaW.PrintWords Go.Proofs.YtmkiajoanblkbaaW.PrintLast Go.Proofs.YtmkiajoanblkbaaW.PrintMore
attribute [local go_sem] max2_int min2_int max_two min_two max_three min_three max_four min_four   -- for this text's walks alone
set_option linter.unusedVariables false
set_option linter.unusedSimpArgs false

/-! ### spec_HexText: function 32 -/
def hexD : ByteArray := ⟨#[48, 49, 50, 51, 52, 53, 54, 55, 56, 57, 97, 98, 99, 100, 101, 102]⟩
def spec_HexText.go (l : List Int) : ByteArray := l.foldl (fun s x => s ++ hexD.extract (x / 16).toNat (x / 16 + 1).toNat ++ hexD.extract (x % 16).toNat (x % 16 + 1).toNat) ⟨#[]⟩
def spec_HexText.f (l0 : List Int) : Option ByteArray := if l0.length ≤ 1099511627776 ∧ ∀ x ∈ l0, 0 ≤ x ∧ x ≤ 255 then some (spec_HexText.go l0) else none
theorem hexD_size (a : Int) (h0 : 0 ≤ a) (h1 : a ≤ 15) : (hexD.extract a.toNat (a + 1).toNat).size = 1 := by
 have : hexD.size = 16 := rfl
 rw [ByteArray.size_extract, this]; omega
theorem spec_HexText.go_snoc (l : List Int) (x : Int) : spec_HexText.go (l ++ [x]) = spec_HexText.go l ++ hexD.extract (x / 16).toNat (x / 16 + 1).toNat ++ hexD.extract (x % 16).toNat (x % 16 + 1).toNat := by
 unfold spec_HexText.go; rw [List.foldl_append]; rfl
theorem spec_HexText.go_size : ∀ (n : Nat) (l : List Int), l.length = n → (∀ x ∈ l, 0 ≤ x ∧ x ≤ 255) → (spec_HexText.go l).size = 2 * n := by
 intro n
 induction n with
 | zero => intro l hl _; obtain rfl := List.eq_nil_of_length_eq_zero hl; rfl
 | succ n ih =>
  intro l hl hb
  obtain ⟨m, x, rfl⟩ : ∃ m x, l = m ++ [x] := ⟨l.dropLast, l.getLast (by intro e; subst e; simp at hl), (List.dropLast_concat_getLast _).symm⟩
  have hm : m.length = n := by simpa using hl
  have hx := hb x (by simp)
  rw [spec_HexText.go_snoc, ByteArray.size_append, ByteArray.size_append, ih m hm (fun y hy => hb y (by simp [hy])), hexD_size _ (by omega) (by omega), hexD_size _ (by omega) (by omega)]
  omega
theorem spec_HexText.step (l : List Int) (k : Nat) (h : k < l.length) (hb : ∀ x ∈ l, 0 ≤ x ∧ x ≤ 255) : ∃ x, 0 ≤ x ∧ x ≤ 255 ∧ rd l (k : Int) = x ∧ spec_HexText.go (l.take (k + 1)) = spec_HexText.go (l.take k) ++ hexD.extract (x / 16).toNat (x / 16 + 1).toNat ++ hexD.extract (x % 16).toNat (x % 16 + 1).toNat ∧ (spec_HexText.go (l.take k)).size = 2 * k := by
 refine ⟨l[k], (hb _ (List.getElem_mem h)).1, (hb _ (List.getElem_mem h)).2, ?_, ?_, ?_⟩
 ·simp [rd, List.getD_eq_getElem?_getD, List.getElem?_eq_getElem h]
 ·rw [List.take_succ_eq_append_getElem h, spec_HexText.go_snoc]
 ·exact spec_HexText.go_size k _ (by rw [List.length_take]; omega) (fun y hy => hb y (List.mem_of_mem_take hy))
set_option maxHeartbeats 8000000 in
set_option maxRecDepth 100000 in
theorem spec_HexText.calls (A0 : Option Addr) (c0 : Nat) (l0 : List Int) (r : ByteArray) (w : World) (hr0 : Kd.C (Kd.int .u8) w A0 l0.length l0) (hc0 : l0.length ≤ c0) (h : spec_HexText.f l0 = some r) :
  Calls Try.prog 32 #[.slice A0 l0.length c0] w fun e w' => e = .returned (.string r) ∧ Drawn0 w w' := by
 have HR0 := Aside0.mk hr0
 have HC0 := Aside0.mk hc0
 clear hr0 hc0
 unfold spec_HexText.f at h
 split at h
 case isFalse => cases h
 rename_i hh
 obtain ⟨hlen, hb⟩ := hh
 obtain rfl := Option.some.inj h
 clear h
 have HBY := Aside0.mk hb
 clear hb
 go_enter Try.func32, Try.ntmps32
 go_wp2
 go_loopw [3, 4] (fun s i wr => ∃ k : Nat, k ≤ l0.length ∧ i = .int .i64 k ∧ s = .string (spec_HexText.go (l0.take k)) ∧ Drawn0 w wr) (fun _ i _ => l0.length - (intOf i).toNat)
 case atStart => exact ⟨0, Nat.zero_le _, rfl, rfl, Drawn0.refl _⟩
 case round =>
  obtain ⟨k, hk, rfl, rfl, ⟨m1, rfl⟩⟩ := hrel
  by_cases hlt : k < l0.length
  ·obtain ⟨x, hx0, hx1, hrd, hst, hsz⟩ := spec_HexText.step l0 k hlt HBY.out
   obtain ⟨ad, rfl, hcell⟩ := Kd.at_int HR0.out (k : Int) (by omega) (by omega)
   rw [hrd] at hcell
   simp only [Int.toNat_natCast] at hcell
   have HST := Aside0.mk hst
   clear hst hrd
   generalize spec_HexText.go (List.take k l0) = s at HST hsz ⊢
   have e1 : ((⟨#[48, 49, 50, 51, 52, 53, 54, 55, 56, 57, 97, 98, 99, 100, 101, 102]⟩ : ByteArray).extract (x / 16).toNat (x / 16 + 1).toNat).size = 1 := hexD_size (x / 16) (by omega) (by omega)
   have e2 : ((⟨#[48, 49, 50, 51, 52, 53, 54, 55, 56, 57, 97, 98, 99, 100, 101, 102]⟩ : ByteArray).extract (x % 16).toNat (x % 16 + 1).toNat).size = 1 := hexD_size (x % 16) (by omega) (by omega)
   have z1 : 0 ≤ x / 16 := by omega
   have z2 : x / 16 + 1 ≤ 16 := by omega
   have z3 : 0 ≤ x % 16 := by omega
   have z4 : x % 16 + 1 ≤ 16 := by omega
   go_wp2
   have hs1 : ∀ W : World, (Instr.slice 9 (.string ⟨#[48, 49, 50, 51, 52, 53, 54, 55, 56, 57, 97, 98, 99, 100, 101, 102]⟩) (some (.int .u8 (x / 16))) (some (.int .u8 (x / 16 + 1))) none).run Try.prog W = .ok (.string ((⟨#[48, 49, 50, 51, 52, 53, 54, 55, 56, 57, 97, 98, 99, 100, 101, 102]⟩ : ByteArray).extract (x / 16).toNat (x / 16 + 1).toNat)) W := fun W => run_slice_string (w := W) 9 _ .u8 .u8 _ _ Try.underlying9 (by omega) (by omega) (by show _ ≤ ((16 : Nat) : Int); omega)
   have hs2 : ∀ W : World, (Instr.slice 9 (.string ⟨#[48, 49, 50, 51, 52, 53, 54, 55, 56, 57, 97, 98, 99, 100, 101, 102]⟩) (some (.int .u8 (x % 16))) (some (.int .u8 (x % 16 + 1))) none).run Try.prog W = .ok (.string ((⟨#[48, 49, 50, 51, 52, 53, 54, 55, 56, 57, 97, 98, 99, 100, 101, 102]⟩ : ByteArray).extract (x % 16).toNat (x % 16 + 1).toNat)) W := fun W => run_slice_string (w := W) 9 _ .u8 .u8 _ _ Try.underlying9 (by omega) (by omega) (by show _ ≤ ((16 : Nat) : Int); omega)
   go_quiet (fail)
   go_wp2
   go_roundw
   case rel => exact ⟨k + 1, by omega, by go_num, by rw [HST.out]; rfl, ⟨⟨_, rfl⟩⟩⟩
   case measure => simp [intOf]; omega
  ·go_wp2
   go_ret
   have hke : l0.take k = l0 := List.take_of_length_le (by omega)
   exact ⟨by show Ending.returned (Value.string (spec_HexText.go (List.take k l0))) = _; rw [hke], ⟨⟨_, rfl⟩⟩⟩

end Go.Proofs.Ytmkiajoanblkbaa.X
