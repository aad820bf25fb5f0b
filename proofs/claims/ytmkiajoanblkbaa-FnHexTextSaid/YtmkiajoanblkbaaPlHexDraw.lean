/- Reading what was written gives it back; what is drawn as a text of signs is short. No condition but that they are bytes. -/
import Derived.Test.YtmkiajoanblkbaaPlHexRead
import Derived.Test.YtmkiajoanblkbaaPlHexInj
import Derived.Test.YtmkiajoanblkbaaPlBytesD
import Derived.Test.YtmkiajoanblkbaaX0
import Derived.Test.YtmkiajoanblkbaaX43
import Derived.Test.YtmkiajoanblkbaaX45
import Derived.Test.YtmkiajoanblkbaaX46
namespace Go.Proofs.Ytmkiajoanblkbaa.Pl
open Go Go.RowKit Go.Proofs.Ytmkiajoanblkbaa.X Go.Proofs.YtmkiajoanblkbaaW.PrintWords Go.Proofs.YtmkiajoanblkbaaW.PrintLast Go.Proofs.YtmkiajoanblkbaaW.PrintMore
theorem bytesOf_str {l : List Int} (h : Bytes l) : bytesOf (strOfNums l) = l := by
  unfold bytesOf
  rw [strOfNums_data, List.map_map]
  induction l with
  | nil => rfl
  | cons x l ih =>
    obtain ⟨h0, h1⟩ := h x (by simp)
    rw [List.map_cons, ih (fun y hy => h y (by simp [hy]))]
    congr 1
    simp only [Function.comp]
    rw [UInt8.toNat_ofNat']
    omega
theorem str_size (l : List Int) : (strOfNums l).size = l.length := by
  rw [← data_length, strOfNums_data, List.length_map]
theorem str_bytesOf (s : ByteArray) : strOfNums (bytesOf s) = s := by
  apply ByteArray.ext
  apply Array.ext'
  rw [strOfNums_data]
  unfold bytesOf
  rw [List.map_map]
  conv => rhs; rw [← List.map_id s.data.toList]
  apply List.map_congr_left
  intro b _
  simp
theorem readS_hex {l : List Int} (h : Bytes l) : readS (strOfNums (hexL l)) = (l, true) := by
  unfold readS
  rw [str_size, hexL_length, if_pos (by omega), bytesOf_str (hexL_bytes h), readL_hexL l h]
  rfl
theorem readS_back (s : ByteArray) : (readS s).1.length ≤ s.size ∧ (((readS s).2 = true ∧ Bytes (readS s).1 ∧ strOfNums (hexL (readS s).1) = s) ∨ readS s = ([], false)) := by
  unfold readS
  split
  · cases h : readL (bytesOf s) with
    | none => exact ⟨by simp [readR], Or.inr rfl⟩
    | some l =>
      obtain ⟨h1, h2⟩ := readL_len _ _ _ (Nat.le_refl _) h
      obtain ⟨h3, h4⟩ := h2 (bytesOf_all s)
      rw [bytesOf_length] at h1
      refine ⟨by simp [readR]; omega, Or.inl ⟨rfl, h3, ?_⟩⟩
      show strOfNums (hexL l) = s
      rw [h4, str_bytesOf]
  · exact ⟨by simp, Or.inr rfl⟩
theorem bent_ok (s : List Int) (hs : Bytes s) (hl : s.length ≤ 2000) (p : Int) (h0 : 0 ≤ p) (h1 : p ≤ 1000) (a : ByteArray) (ha : a.size ≤ 1000) :
    ∃ t q, (∀ k, 1 ≤ k → spec_l20Bent.f k s p a = some (t, q)) ∧ t.size ≤ a.size + 1 := by
  obtain ⟨r1, e1, l1, u1, _⟩ := pick_ok s hs hl p ((a.size : Int) + 1) h0 (by omega)
  obtain ⟨r2, e2, l2, u2, _⟩ := pick_ok s hs hl (p + 1) 256 (by omega) (by omega)
  obtain ⟨r3, e3, l3, u3, _⟩ := pick_ok s hs hl (p + 1 + 1) 8 (by omega) (by omega)
  obtain ⟨r4, e4, l4, u4, _⟩ := pick_ok s hs hl (p + 1 + 1 + 1) 3 (by omega) (by omega)
  replace u1 := u1 (by omega)
  replace u3 := u3 (by omega)
  replace u4 := u4 (by omega)
  have hn (x : Int) : (strOfNums [x]).size = 1 := by rw [str_size]; rfl
  by_cases c0 : r4 = 0
  · refine ⟨(a.extract 0 r1.toNat) ++ strOfNums [(rd [32, 48, 49, 57, 47, 46, 97, r2] r3) % 256] ++ (a.extract r1.toNat a.size), p + 1 + 1 + 1 + 1, fun k hk => ?_, ?_⟩
    · unfold spec_l20Bent.f
      rw [w64 (by omega) (by omega), e1 k hk, Option.bind_some, e2 k hk, Option.bind_some, Option.bind_some, e3 k hk, Option.bind_some, if_pos l3, if_pos (by simpa using u3), Option.bind_some, e4 k hk, Option.bind_some, if_pos c0, if_pos l1, if_pos (show r1 ≤ (a.size : Int) by omega), if_pos (by rw [ByteArray.size_extract, hn]; omega), if_pos (by rw [ByteArray.size_append, ByteArray.size_extract, ByteArray.size_extract, hn]; omega)]
    · rw [ByteArray.size_append, ByteArray.size_append, ByteArray.size_extract, ByteArray.size_extract, hn]; omega
  by_cases c1 : r4 = 1
  · by_cases c2 : r1 < (a.size : Int)
    · refine ⟨(a.extract 0 r1.toNat) ++ (a.extract (r1 + 1).toNat a.size), p + 1 + 1 + 1 + 1, fun k hk => ?_, ?_⟩
      · unfold spec_l20Bent.f
        rw [w64 (by omega) (by omega), e1 k hk, Option.bind_some, e2 k hk, Option.bind_some, Option.bind_some, e3 k hk, Option.bind_some, if_pos l3, if_pos (by simpa using u3), Option.bind_some, e4 k hk, Option.bind_some, if_neg c0, if_pos c1, if_pos c2, if_pos l1, if_pos (show r1 ≤ (a.size : Int) by omega), w64 (by omega) (by omega), if_pos (by omega), if_pos (show r1 + 1 ≤ (a.size : Int) by omega), if_pos (by rw [ByteArray.size_extract, ByteArray.size_extract]; omega)]
      · rw [ByteArray.size_append, ByteArray.size_extract, ByteArray.size_extract]; omega
    · refine ⟨a, p + 1 + 1 + 1 + 1, fun k hk => ?_, by omega⟩
      unfold spec_l20Bent.f
      rw [w64 (by omega) (by omega), e1 k hk, Option.bind_some, e2 k hk, Option.bind_some, Option.bind_some, e3 k hk, Option.bind_some, if_pos l3, if_pos (by simpa using u3), Option.bind_some, e4 k hk, Option.bind_some, if_neg c0, if_pos c1, if_neg c2]
  · by_cases c2 : r1 < (a.size : Int)
    · refine ⟨(a.extract 0 r1.toNat) ++ strOfNums [(rd [32, 48, 49, 57, 47, 46, 97, r2] r3) % 256] ++ (a.extract (r1 + 1).toNat a.size), p + 1 + 1 + 1 + 1, fun k hk => ?_, ?_⟩
      · unfold spec_l20Bent.f
        rw [w64 (by omega) (by omega), e1 k hk, Option.bind_some, e2 k hk, Option.bind_some, Option.bind_some, e3 k hk, Option.bind_some, if_pos l3, if_pos (by simpa using u3), Option.bind_some, e4 k hk, Option.bind_some, if_neg c0, if_neg c1, if_pos c2, if_pos l1, if_pos (show r1 ≤ (a.size : Int) by omega), if_pos (by rw [ByteArray.size_extract, hn]; omega), w64 (by omega) (by omega), if_pos (by omega), if_pos (show r1 + 1 ≤ (a.size : Int) by omega), if_pos (by rw [ByteArray.size_append, ByteArray.size_extract, ByteArray.size_extract, hn]; omega)]
      · rw [ByteArray.size_append, ByteArray.size_append, ByteArray.size_extract, ByteArray.size_extract, hn]; omega
    · refine ⟨a, p + 1 + 1 + 1 + 1, fun k hk => ?_, by omega⟩
      unfold spec_l20Bent.f
      rw [w64 (by omega) (by omega), e1 k hk, Option.bind_some, e2 k hk, Option.bind_some, Option.bind_some, e3 k hk, Option.bind_some, if_pos l3, if_pos (by simpa using u3), Option.bind_some, e4 k hk, Option.bind_some, if_neg c0, if_neg c1, if_neg c2]
theorem drawHex_ok (l : List Int) (hb : Bytes l) : ∃ s, (∀ k, 20 ≤ k → spec_DrawHexText.f k l = some s) ∧ Bytes s ∧ (s.length : Int) ≤ 12 := by
  obtain ⟨c, ho, hc, hl, _⟩ := open_ok l hb
  obtain ⟨s, q, hs, hsb, hsl, hq0, hq1⟩ := bytes_ok c hc hl 0 12 (by omega) (by omega) (by omega) (by omega)
  refine ⟨s, fun k hk => ?_, hsb, hsl⟩
  unfold spec_DrawHexText.f
  rw [ho, Option.bind_some, hs k (by omega), Option.bind_some]
theorem drawRead_ok (l : List Int) (hb : Bytes l) : ∃ s, (∀ k, 20 ≤ k → spec_DrawHexRead.f k l = some s) ∧ s.size ≤ 17 := by
  obtain ⟨c, ho, hc, hl, _⟩ := open_ok l hb
  obtain ⟨y, q, hy, hyb, hyl, hq0, hq1⟩ := bytes_ok c hc hl 0 8 (by omega) (by omega) (by omega) (by omega)
  obtain ⟨r, er, _, _, _⟩ := pick_ok c hc hl q 3 (by omega) (by omega)
  have hsz : (strOfNums (hexL y)).size ≤ 16 := by rw [str_size, hexL_length]; omega
  obtain ⟨t, q', ht, htl⟩ := bent_ok c hc hl (q + 1) (by omega) (by omega) (strOfNums (hexL y)) (by omega)
  by_cases h : r = 0
  · refine ⟨t, fun k hk => ?_, by omega⟩
    unfold spec_DrawHexRead.f
    rw [ho, Option.bind_some, hy k (by omega), Option.bind_some, specHexText_ok y (by omega) hyb, Option.bind_some, er k (by omega), Option.bind_some, if_pos h, ht k (by omega), Option.bind_some]
  · refine ⟨strOfNums (hexL y), fun k hk => ?_, by omega⟩
    unfold spec_DrawHexRead.f
    rw [ho, Option.bind_some, hy k (by omega), Option.bind_some, specHexText_ok y (by omega) hyb, Option.bind_some, er k (by omega), Option.bind_some, if_neg h]
end Go.Proofs.Ytmkiajoanblkbaa.Pl
