/- Bytes that are turned, and what is drawn as a picture's bytes: the drawing ends, with bytes. The code is bytes. -/
import Derived.Test.YthnmeogafklhnaaPlDrawRas
import Derived.Test.YthnmeogafklhnaaPlRasJoin
import Derived.Test.YthnmeogafklhnaaX0
import Derived.Test.YthnmeogafklhnaaX79
import Derived.Test.YthnmeogafklhnaaX80
namespace Go.Proofs.Ythnmeogafklhnaa.Pl
open Go Go.RowKit Go.Proofs.Ythnmeogafklhnaa.X Go.Proofs.YthnmeogafklhnaaW.PrintWords Go.Proofs.YthnmeogafklhnaaW.PrintLast Go.Proofs.YthnmeogafklhnaaW.PrintMore
theorem xor_b (a b : Int) (ha : Byte a) (hb : Byte b) : Byte (Go.bits .xor .u8 a b) := by
  obtain ⟨x, rfl⟩ := Int.eq_ofNat_of_zero_le ha.1
  obtain ⟨y, rfl⟩ := Int.eq_ofNat_of_zero_le hb.1
  have hx : x < 2 ^ 8 := by have := ha.2; omega
  have hy : y < 2 ^ 8 := by have := hb.2; omega
  have hxy : x ^^^ y < 2 ^ 8 := Nat.xor_lt_two_pow hx hy
  have e : Go.bits .xor .u8 (x : Int) (y : Int) = IntKind.u8.wrap ((x ^^^ y : Nat) : Int) := by
    simp only [Go.bits, BitVec.ofInt_natCast, BitVec.toNat_xor, BitVec.toNat_ofNat]
    rw [show IntKind.bits .u8 = 8 from rfl, Nat.mod_eq_of_lt hx, Nat.mod_eq_of_lt hy]
  have e2 : IntKind.u8.wrap ((x ^^^ y : Nat) : Int) = ((x ^^^ y : Nat) : Int) := by
    unfold IntKind.wrap
    simp only [IntKind.signed, IntKind.bits]
    simp
    omega
  rw [e, e2]
  exact ⟨by omega, by omega⟩
theorem turn_ok (s : List Int) (hs : Bytes s) (hl : s.length ≤ 2000) (p : Int) (h0 : 0 ≤ p) (h1 : p ≤ 900000) (b : List Int) (hb : Bytes b) (hbl : b.length ≤ 1000) :
    ∃ t q, (∀ k, 1 ≤ k → spec_l20Turn.f k s p b = some (t, q)) ∧ Bytes t := by
  obtain ⟨r0, e0, l0, u0, _⟩ := pick_ok s hs hl p 256 h0 (by omega)
  by_cases hz : (b.length : Int) = 0
  · refine ⟨[r0 % 256], p + 1, fun k hk => ?_, ?_⟩
    · unfold spec_l20Turn.f
      rw [if_pos hz, e0 k hk, Option.bind_some]
    · intro x hx
      rw [List.mem_singleton] at hx
      subst hx
      exact byte_mod _
  obtain ⟨r1, e1, l1, u1, _⟩ := pick_ok s hs hl p (b.length : Int) h0 (by omega)
  obtain ⟨r2, e2, l2, u2, _⟩ := pick_ok s hs hl (p + 1) 3 (by omega) (by omega)
  obtain ⟨r3, e3, l3, u3, _⟩ := pick_ok s hs hl (p + 1 + 1) 9 (by omega) (by omega)
  obtain ⟨r4, e4, l4, u4, _⟩ := pick_ok s hs hl (p + 1 + 1) 255 (by omega) (by omega)
  replace u1 := u1 (by omega)
  have t1 : (b.take r1.toNat).length ≤ 1000 := by rw [List.length_take]; omega
  have t2 : (b.drop (r1 + 1).toNat).length ≤ 1000 := by rw [List.length_drop]; omega
  have t3 : (b.drop r1.toNat).length ≤ 1000 := by rw [List.length_drop]; omega
  by_cases c0 : r2 = 0
  · refine ⟨[] ++ b.take r1.toNat ++ b.drop (r1 + 1).toNat, p + 1 + 1, fun k hk => ?_, bytes_append (bytes_append bytes_nil (bytes_take hb _)) (bytes_drop hb _)⟩
    unfold spec_l20Turn.f
    rw [if_neg hz, e1 k hk, Option.bind_some, e2 k hk, Option.bind_some]
    dsimp only
    rw [if_pos c0, Option.bind_some, if_pos l1, if_pos (show r1 ≤ (b.length : Int) by omega), if_pos (by rw [List.length_nil]; omega), Option.bind_some, w64 (x := r1 + 1) (by omega) (by omega), if_pos (by omega), if_pos (by omega), if_pos (by rw [List.length_append, List.length_nil]; omega)]
  by_cases c1 : r2 = 1
  · refine ⟨[] ++ b.take r1.toNat ++ [r3 % 256] ++ b.drop r1.toNat, p + 1 + 1 + 1, fun k hk => ?_, bytes_append (bytes_snoc (bytes_append bytes_nil (bytes_take hb _)) (byte_mod _)) (bytes_drop hb _)⟩
    unfold spec_l20Turn.f
    rw [if_neg hz, e1 k hk, Option.bind_some, e2 k hk, Option.bind_some]
    dsimp only
    rw [if_neg c0, if_pos c1, Option.bind_some, if_pos l1, if_pos (show r1 ≤ (b.length : Int) by omega), if_pos (by rw [List.length_nil]; omega), Option.bind_some, e3 k hk, Option.bind_some, if_pos (by rw [List.length_append, List.length_nil]; omega), Option.bind_some, if_pos (by rw [List.length_append, List.length_append, List.length_nil, List.length_singleton]; omega)]
  · refine ⟨([] ++ b).set r1.toNat (Go.bits .xor .u8 (rd ([] ++ b) r1) ((wrap64 (1 + r4)) % 256)), p + 1 + 1 + 1, fun k hk => ?_, ?_⟩
    · unfold spec_l20Turn.f
      rw [if_neg hz, e1 k hk, Option.bind_some, e2 k hk, Option.bind_some]
      dsimp only
      rw [if_neg c0, if_neg c1, Option.bind_some, if_pos (by rw [List.length_nil]; omega), Option.bind_some, if_pos l1, if_pos (by rw [List.nil_append]; omega), e4 k hk, Option.bind_some]
    · rw [List.nil_append]
      exact bytes_set hb _ (xor_b _ _ (rd_byte hb _) (byte_mod _))
theorem drawRasRead_ok (l : List Int) (hb : Bytes l) : ∃ c, (∀ k, 100 ≤ k → spec_DrawRasRead.f k l = some c) ∧ Bytes c := by
  obtain ⟨s, ho, hs, hl, _⟩ := open_ok l hb
  obtain ⟨W, H, r, q, he, hq0, hq1, hd, _⟩ := ras_ok s hs hl 0 0 (by omega) (by omega) (by omega)
  have h36 := hd.2.2.2.2
  have hbb := bytesR_bytes W H r
  have hbl := bytesR_len W H r
  obtain ⟨x, ex, x0, x1, _⟩ := pick_ok s hs hl q 3 (by omega) (by omega)
  obtain ⟨t, p, ht, htb⟩ := turn_ok s hs hl (q + 1) (by omega) (by omega) (bytesR W H r) hbb (by omega)
  by_cases c0 : x = 0
  · refine ⟨t, fun k hk => ?_, htb⟩
    unfold spec_DrawRasRead.f
    rw [ho, Option.bind_some, he k (by omega), Option.bind_some, specRasBytes_ok W H r (by omega) k (by omega), Option.bind_some, ex k (by omega), Option.bind_some, if_pos c0, ht k (by omega), Option.bind_some]
  · refine ⟨bytesR W H r, fun k hk => ?_, hbb⟩
    unfold spec_DrawRasRead.f
    rw [ho, Option.bind_some, he k (by omega), Option.bind_some, specRasBytes_ok W H r (by omega) k (by omega), Option.bind_some, ex k (by omega), Option.bind_some, if_neg c0]
end Go.Proofs.Ythnmeogafklhnaa.Pl
