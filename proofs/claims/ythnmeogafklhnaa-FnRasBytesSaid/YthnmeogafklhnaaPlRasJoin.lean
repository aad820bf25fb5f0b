/- A picture's bytes are read as it, and what is read of bytes has these bytes. No condition but that they are bytes. -/
import Derived.Test.YthnmeogafklhnaaPlRasRead
import Derived.Test.YthnmeogafklhnaaPlRasBytes
import Derived.Test.YthnmeogafklhnaaX0
import Derived.Test.YthnmeogafklhnaaX65
import Derived.Test.YthnmeogafklhnaaX82
namespace Go.Proofs.Ythnmeogafklhnaa.Pl
open Go Go.RowKit Go.Proofs.Ythnmeogafklhnaa.X Go.Proofs.YthnmeogafklhnaaW.PrintWords Go.Proofs.YthnmeogafklhnaaW.PrintLast Go.Proofs.YthnmeogafklhnaaW.PrintMore
theorem bs_at (W H : Int) (l : List S38) : ∀ n : Nat, n ≤ l.length → ∀ (j t : Nat), j < n → ∀ hl : j < l.length, t < 4 → (rb_bs W H l n)[2 + 4 * j + t]? = (rb_quad l[j])[t]? := by
  intro n
  induction n with
  | zero => intro _ j t hj; omega
  | succ n ih =>
    intro hn j t hj hl ht
    have hlen := rb_len W H l n (by omega)
    rw [rb_succ W H l n (by omega)]
    by_cases e : j = n
    · subst e
      rw [List.getElem?_append_right (by omega), hlen, show 2 + 4 * j + t - (2 + 4 * j) = t by omega]
    · rw [List.getElem?_append_left (by omega)]
      exact ih (by omega) j t (by omega) hl ht
theorem bs_two (W H : Int) (l : List S38) (n : Nat) : (rb_bs W H l n)[0]? = some (W % 256) ∧ (rb_bs W H l n)[1]? = some (H % 256) := ⟨rfl, rfl⟩
theorem rd_some {l : List Int} {i : Nat} {x : Int} (h : l[i]? = some x) : rd l (i : Int) = x := by
  rw [rd_nat, List.getD_eq_getElem?_getD, h]; rfl
theorem quad_at (p : S38) : (rb_quad p)[0]? = some (p.f0 % 256) ∧ (rb_quad p)[1]? = some (p.f1 % 256) ∧ (rb_quad p)[2]? = some (p.f2 % 256) ∧ (rb_quad p)[3]? = some (p.f3 % 256) := ⟨rfl, rfl, rfl, rfl⟩
theorem px_bs {W H : Int} {l : List S38} (j : Nat) (hj : j < l.length) (hg : GoodP l[j]) : px (rb_bs W H l l.length) j = l[j] := by
  obtain ⟨q0, q1, q2, q3⟩ := quad_at l[j]
  have h0 := rd_some ((bs_at W H l l.length (Nat.le_refl _) j 0 hj hj (by omega)).trans q0)
  have h1 := rd_some ((bs_at W H l l.length (Nat.le_refl _) j 1 hj hj (by omega)).trans q1)
  have h2 := rd_some ((bs_at W H l l.length (Nat.le_refl _) j 2 hj hj (by omega)).trans q2)
  have h3 := rd_some ((bs_at W H l l.length (Nat.le_refl _) j 3 hj hj (by omega)).trans q3)
  have g0 : 0 ≤ l[j].f0 ∧ l[j].f0 ≤ 255 := hg.1
  have g1 : 0 ≤ l[j].f1 ∧ l[j].f1 ≤ 255 := hg.2.1
  have g2 : 0 ≤ l[j].f2 ∧ l[j].f2 ≤ 255 := hg.2.2.1
  have g3 : 0 ≤ l[j].f3 ∧ l[j].f3 ≤ 255 := hg.2.2.2
  unfold px
  rw [Nat.add_zero] at h0
  rw [h0, h1, h2, h3, w64 (x := l[j].f0 % 256) (by omega) (by omega), w64 (x := l[j].f1 % 256) (by omega) (by omega), w64 (x := l[j].f2 % 256) (by omega) (by omega), w64 (x := l[j].f3 % 256) (by omega) (by omega), Int.emod_eq_of_lt g0.1 (by omega), Int.emod_eq_of_lt g1.1 (by omega), Int.emod_eq_of_lt g2.1 (by omega), Int.emod_eq_of_lt g3.1 (by omega)]
/-- What is read of bytes that are none: known by the first two, and the length. -/
theorem readR_no {l : List Int} {a b : Int} (h0 : rd l 0 = a) (h1 : rd l 1 = b) (ha : 0 ≤ a ∧ a ≤ 255) (hb : 0 ≤ b ∧ b ≤ 255) (hl : (l.length : Int) ≠ 2 + 4 * (a * b)) : (readR l).2.2.2 = false := by
  unfold readR
  split
  · rfl
  · rw [if_neg]
    rw [h0, h1, w64 (x := a) (by omega) (by omega), w64 (x := b) (by omega) (by omega)]
    exact fun h => hl h.2.2
theorem readR_bs {W H : Int} {l : List S38} (hr : RasP W H l) : readR (rb_bs W H l l.length) = (W, H, l, true) := by
  have hlen := rb_len W H l l.length (Nat.le_refl _)
  have h36 := hr.len
  obtain ⟨hW, hH, hn, hg⟩ := id hr
  have hm := mulB hW hH
  have e0 : rd (rb_bs W H l l.length) 0 = W % 256 := rd_some (bs_two W H l l.length).1
  have e1 : rd (rb_bs W H l l.length) 1 = H % 256 := rd_some (bs_two W H l l.length).2
  rw [Int.emod_eq_of_lt (by omega) (by omega)] at e0 e1
  unfold readR
  rw [if_neg (by omega), e0, e1, w64 (x := W) (by omega) (by omega), w64 (x := H) (by omega) (by omega), if_pos ⟨hW, hH, by omega⟩]
  obtain ⟨a, rfl⟩ := Int.eq_ofNat_of_zero_le (show 0 ≤ W by omega)
  obtain ⟨b, rfl⟩ := Int.eq_ofNat_of_zero_le (show 0 ≤ H by omega)
  rw [Int.toNat_natCast, Int.toNat_natCast, grid_px]
  have hab : a * b = l.length := by
    have : ((a * b : Nat) : Int) = (l.length : Int) := by rw [Int.natCast_mul]; omega
    omega
  have e : (List.range (a * b)).map (px (rb_bs (a : Int) (b : Int) l l.length)) = l := by
    rw [hab]
    apply List.ext_getElem
    · rw [List.length_map, List.length_range]
    · intro j h1 h2
      rw [List.getElem_map, List.getElem_range]
      exact px_bs j h2 (hg _ (List.getElem_mem _))
  rw [e]
theorem readR_back {c : List Int} (hc : Bytes c) (h : (readR c).2.2.2 = true) : RasP (readR c).1 (readR c).2.1 (readR c).2.2.1 ∧ bytesR (readR c).1 (readR c).2.1 (readR c).2.2.1 = c := by
  have b0 := rd_byte hc 0
  have b1 := rd_byte hc 1
  unfold Byte at b0 b1
  by_cases h2 : c.length < 2
  · unfold readR at h
    rw [if_pos h2] at h
    cases h
  have hr : readR c = if (1 ≤ rd c 0 ∧ rd c 0 ≤ 6) ∧ (1 ≤ rd c 1 ∧ rd c 1 ≤ 6) ∧ (c.length : Int) = 2 + 4 * (rd c 0 * rd c 1) then (rd c 0, rd c 1, rq_grid (rd c 0).toNat (rd c 1).toNat (rq_readS (rd c 0).toNat c), true) else (0, 0, [], false) := by
    unfold readR
    rw [if_neg h2, w64 (x := rd c 0) (by omega) (by omega), w64 (x := rd c 1) (by omega) (by omega)]
  by_cases hg : (1 ≤ rd c 0 ∧ rd c 0 ≤ 6) ∧ (1 ≤ rd c 1 ∧ rd c 1 ≤ 6) ∧ (c.length : Int) = 2 + 4 * (rd c 0 * rd c 1)
  · rw [if_pos hg] at hr
    obtain ⟨a, ha⟩ := Int.eq_ofNat_of_zero_le (show 0 ≤ rd c 0 by omega)
    obtain ⟨b, hb⟩ := Int.eq_ofNat_of_zero_le (show 0 ≤ rd c 1 by omega)
    rw [ha, hb, Int.toNat_natCast, Int.toNat_natCast, grid_px] at hr
    rw [hr]
    obtain ⟨g0, g1, g2⟩ := hg
    have hl : c.length = 2 + 4 * (a * b) := by
      rw [ha, hb, ← Int.natCast_mul] at g2
      omega
    have hpx (j : Nat) (hj : j < a * b) : ∀ t : Nat, t < 4 → (0 : Int) ≤ rd c ((2 + 4 * j + t : Nat) : Int) ∧ rd c ((2 + 4 * j + t : Nat) : Int) ≤ 255 := fun t _ => rd_byte hc _
    have hp (j : Nat) (hj : j < a * b) : px c j = ⟨rd c ((2 + 4 * j : Nat) : Int), rd c ((2 + 4 * j + 1 : Nat) : Int), rd c ((2 + 4 * j + 2 : Nat) : Int), rd c ((2 + 4 * j + 3 : Nat) : Int)⟩ := by
      have k0 := hpx j hj 0 (by omega)
      have k1 := hpx j hj 1 (by omega)
      have k2 := hpx j hj 2 (by omega)
      have k3 := hpx j hj 3 (by omega)
      rw [Nat.add_zero] at k0
      unfold px
      rw [w64 (x := rd c ((2 + 4 * j : Nat) : Int)) (by omega) (by omega), w64 (x := rd c ((2 + 4 * j + 1 : Nat) : Int)) (by omega) (by omega), w64 (x := rd c ((2 + 4 * j + 2 : Nat) : Int)) (by omega) (by omega), w64 (x := rd c ((2 + 4 * j + 3 : Nat) : Int)) (by omega) (by omega)]
    have hlm : ((List.range (a * b)).map (px c)).length = a * b := by rw [List.length_map, List.length_range]
    have hR : RasP (a : Int) (b : Int) ((List.range (a * b)).map (px c)) := by
      refine ⟨by omega, by omega, by rw [hlm, Int.natCast_mul], fun q hq => ?_⟩
      obtain ⟨j, hj, rfl⟩ := List.mem_map.1 hq
      rw [List.mem_range] at hj
      rw [hp j hj]
      have k0 := hpx j hj 0 (by omega)
      rw [Nat.add_zero] at k0
      exact ⟨k0, hpx j hj 1 (by omega), hpx j hj 2 (by omega), hpx j hj 3 (by omega)⟩
    refine ⟨hR, ?_⟩
    dsimp only
    unfold bytesR
    rw [if_pos hR, hlm]
    have hbl := rb_len (a : Int) (b : Int) ((List.range (a * b)).map (px c)) (a * b) (by omega)
    have hrd (i : Nat) (hi : i < c.length) : c[i]? = some (rd c (i : Int)) := by rw [rd_lt hi, List.getElem?_eq_getElem hi]
    apply List.ext_getElem?
    intro i
    by_cases hi : i < c.length
    · rw [hrd i hi]
      by_cases i0 : i = 0
      · subst i0
        rw [(bs_two _ _ _ _).1, Int.emod_eq_of_lt (by omega) (by omega), ← ha]; rfl
      by_cases i1 : i = 1
      · subst i1
        rw [(bs_two _ _ _ _).2, Int.emod_eq_of_lt (by omega) (by omega), ← hb]; rfl
      obtain ⟨j, t, ht, rfl⟩ : ∃ j t : Nat, t < 4 ∧ i = 2 + 4 * j + t := ⟨(i - 2) / 4, (i - 2) % 4, Nat.mod_lt _ (by omega), by omega⟩
      have hj : j < a * b := by omega
      rw [bs_at _ _ _ (a * b) (by omega) j t hj (by omega) ht, List.getElem_map, List.getElem_range, hp j hj]
      have k := hpx j hj t ht
      have m (x : Int) (h : 0 ≤ x ∧ x ≤ 255) : x % 256 = x := Int.emod_eq_of_lt h.1 (by omega)
      rcases (show t = 0 ∨ t = 1 ∨ t = 2 ∨ t = 3 by omega) with rfl | rfl | rfl | rfl
      · rw [(quad_at _).1, Nat.add_zero]; rw [Nat.add_zero] at k; exact congrArg some (m _ k)
      · rw [(quad_at _).2.1]; exact congrArg some (m _ k)
      · rw [(quad_at _).2.2.1]; exact congrArg some (m _ k)
      · rw [(quad_at _).2.2.2]; exact congrArg some (m _ k)
    · rw [List.getElem?_eq_none (by omega), List.getElem?_eq_none (by omega)]
  · rw [if_neg hg] at hr
    rw [hr] at h
    cases h
theorem bytesR_bytes (W H : Int) (l : List S38) : Bytes (bytesR W H l) := by
  unfold bytesR
  split
  · unfold rb_bs
    refine bytes_append (fun x hx => ?_) (fun x hx => ?_)
    · simp only [List.mem_cons, List.not_mem_nil, or_false] at hx
      rcases hx with rfl | rfl <;> exact byte_mod _
    · obtain ⟨p, _, hp⟩ := List.mem_flatMap.1 hx
      unfold rb_quad at hp
      simp only [List.mem_cons, List.not_mem_nil, or_false] at hp
      rcases hp with rfl | rfl | rfl | rfl <;> exact byte_mod _
  · exact bytes_nil
end Go.Proofs.Ythnmeogafklhnaa.Pl
