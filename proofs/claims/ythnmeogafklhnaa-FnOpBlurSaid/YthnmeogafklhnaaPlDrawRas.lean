/- What is drawn as a colour, and as a picture: numbers within bounds; a picture of which none may be wrong is one. The code is bytes, no more than 2000. -/
import Derived.Test.YthnmeogafklhnaaPlPick
import Derived.Test.YthnmeogafklhnaaPlRas
import Derived.Test.YthnmeogafklhnaaX0
import Derived.Test.YthnmeogafklhnaaX5
import Derived.Test.YthnmeogafklhnaaX7
namespace Go.Proofs.Ythnmeogafklhnaa.Pl
open Go Go.RowKit Go.Proofs.Ythnmeogafklhnaa.X Go.Proofs.YthnmeogafklhnaaW.PrintWords Go.Proofs.YthnmeogafklhnaaW.PrintLast Go.Proofs.YthnmeogafklhnaaW.PrintMore
theorem rdAll {P : Int → Prop} {l : List Int} (h : ∀ x ∈ l, P x) {i : Int} (h0 : 0 ≤ i) (h1 : i < (l.length : Int)) : P (rd l i) := by
  obtain ⟨m, rfl⟩ := Int.eq_ofNat_of_zero_le h0
  rw [rd_lt (show m < l.length by omega)]
  exact h _ (List.getElem_mem _)
theorem pix_ok (s : List Int) (hs : Bytes s) (hl : s.length ≤ 2000) (p : Int) (h0 : 0 ≤ p) (h1 : p ≤ 900000) :
    ∃ a b c d, (∀ k, 1 ≤ k → spec_l20Pix.f k s p = some (a, b, c, d, p + 1 + 1 + 1 + 1 + 1 + 1 + 1 + 1)) ∧ PixP a b c d := by
  obtain ⟨r1, e1, l1, u1, _⟩ := pick_ok s hs hl p 256 h0 (by omega)
  obtain ⟨r2, e2, l2, u2, _⟩ := pick_ok s hs hl (p + 1) 3 (by omega) (by omega)
  obtain ⟨r3, e3, l3, u3, _⟩ := pick_ok s hs hl (p + 1 + 1) 256 (by omega) (by omega)
  obtain ⟨r4, e4, l4, u4, _⟩ := pick_ok s hs hl (p + 1 + 1 + 1) 2 (by omega) (by omega)
  obtain ⟨r5, e5, l5, u5, _⟩ := pick_ok s hs hl (p + 1 + 1 + 1 + 1) 256 (by omega) (by omega)
  obtain ⟨r6, e6, l6, u6, _⟩ := pick_ok s hs hl (p + 1 + 1 + 1 + 1 + 1) 2 (by omega) (by omega)
  obtain ⟨r7, e7, l7, u7, _⟩ := pick_ok s hs hl (p + 1 + 1 + 1 + 1 + 1 + 1) 256 (by omega) (by omega)
  obtain ⟨r8, e8, l8, u8, _⟩ := pick_ok s hs hl (p + 1 + 1 + 1 + 1 + 1 + 1 + 1) 4 (by omega) (by omega)
  replace u1 := u1 (by omega)
  replace u2 := u2 (by omega)
  replace u3 := u3 (by omega)
  replace u4 := u4 (by omega)
  replace u5 := u5 (by omega)
  replace u6 := u6 (by omega)
  replace u7 := u7 (by omega)
  replace u8 := u8 (by omega)
  have v1 : (0 : Int) ≤ rd [0, 255, r1] r2 ∧ rd [0, 255, r1] r2 ≤ 255 := rdAll (P := fun z => (0 : Int) ≤ z ∧ z ≤ 255) (by intro z hz; simp only [List.mem_cons, List.not_mem_nil, or_false] at hz; omega) l2 (by simpa using u2)
  have v2 : (0 : Int) ≤ rd [rd [0, 255, r1] r2, r3] r4 ∧ rd [rd [0, 255, r1] r2, r3] r4 ≤ 255 := rdAll (P := fun z => (0 : Int) ≤ z ∧ z ≤ 255) (by intro z hz; simp only [List.mem_cons, List.not_mem_nil, or_false] at hz; omega) l4 (by simpa using u4)
  have v3 : (0 : Int) ≤ rd [rd [0, 255, r1] r2, r5] r6 ∧ rd [rd [0, 255, r1] r2, r5] r6 ≤ 255 := rdAll (P := fun z => (0 : Int) ≤ z ∧ z ≤ 255) (by intro z hz; simp only [List.mem_cons, List.not_mem_nil, or_false] at hz; omega) l6 (by simpa using u6)
  have v4 : (0 : Int) ≤ rd [255, 255, 0, r7] r8 ∧ rd [255, 255, 0, r7] r8 ≤ 255 := rdAll (P := fun z => (0 : Int) ≤ z ∧ z ≤ 255) (by intro z hz; simp only [List.mem_cons, List.not_mem_nil, or_false] at hz; omega) l8 (by simpa using u8)
  refine ⟨_, _, _, _, fun k hk => ?_, v1, v2, v3, v4⟩
  unfold spec_l20Pix.f
  rw [e1 k hk, Option.bind_some, Option.bind_some, e2 k hk, Option.bind_some, if_pos l2, if_pos (by simpa using u2), e3 k hk, Option.bind_some, Option.bind_some, e4 k hk, Option.bind_some, if_pos l4, if_pos (by simpa using u4), e5 k hk, Option.bind_some, Option.bind_some, e6 k hk, Option.bind_some, if_pos l6, if_pos (by simpa using u6), e7 k hk, Option.bind_some, Option.bind_some, e8 k hk, Option.bind_some, if_pos l8, if_pos (by simpa using u8)]
/-- What a drawn picture is at least. -/
def RasD (W H : Int) (l : List S38) : Prop := -10 ≤ W ∧ W ≤ 10 ∧ -10 ≤ H ∧ H ≤ 10 ∧ l.length ≤ 36
theorem rasEnd (s : List Int) (hs : Bytes s) (hl : s.length ≤ 2000) (W H : Int) (hW : 1 ≤ W ∧ W ≤ 6) (hH : 1 ≤ H ∧ H ≤ 6) (x : List S38) (hx : (x.length : Int) = W * H) (hg : ∀ q ∈ x, GoodP q) (n i p a b c d : Int) (hi : i = W * H) (h0 : 0 ≤ p) (h1 : p ≤ 800000) (hn : n ≤ 1000000) :
    ∃ W' H' l q, (∀ k, 1 ≤ k → spec_l20Ras.l0 (k + 1) n i s p W H x a b c d = some (W', H', l, q)) ∧ p ≤ q ∧ q ≤ p + 10 ∧ RasD W' H' l ∧ (n ≤ 0 → RasP W' H' l) := by
  have hm := mulB hW hH
  obtain ⟨o, q1, eo, ho0, ho1, hof⟩ := odd_ok s hs hl p n h0 (by omega) hn
  cases o with
  | false =>
    refine ⟨W, H, x, q1, fun k hk => ?_, by omega, by omega, ⟨by omega, by omega, by omega, by omega, by omega⟩, fun _ => ⟨hW, hH, hx, hg⟩⟩
    simp only [spec_l20Ras.l0]
    rw [w64 (x := W * H) (by omega) (by omega), if_neg (by omega), eo k hk, Option.bind_some, if_neg (by simp)]
  | true =>
    have hno : ¬ n ≤ 0 := fun h => by have := hof h; cases this
    obtain ⟨r, er, r0, r1, _⟩ := pick_ok s hs hl q1 4 (by omega) (by omega)
    replace r1 := r1 (by omega)
    obtain ⟨t4, e4, t0, t1, _⟩ := pick_ok s hs hl (q1 + 1) 4 (by omega) (by omega)
    replace t1 := t1 (by omega)
    obtain ⟨t2, e2, z0, z1, _⟩ := pick_ok s hs hl (q1 + 1) 2 (by omega) (by omega)
    replace z1 := z1 (by omega)
    obtain ⟨tl, el, y0, y1, _⟩ := pick_ok s hs hl (q1 + 1) (x.length : Int) (by omega) (by omega)
    replace y1 := y1 (by omega)
    obtain ⟨te, ee, v0, v1, _⟩ := pick_ok s hs hl (q1 + 1 + 1) 2 (by omega) (by omega)
    replace v1 := v1 (by omega)
    by_cases c0 : r = 0
    · have hv : (-10 : Int) ≤ rd [0, -1, 7, W + 1] t4 ∧ rd [0, -1, 7, W + 1] t4 ≤ 10 := rdAll (P := fun z => (-10 : Int) ≤ z ∧ z ≤ 10) (by intro z hz; simp only [List.mem_cons, List.not_mem_nil, or_false] at hz; omega) t0 (by simpa using t1)
      refine ⟨rd [0, -1, 7, W + 1] t4, H, x, q1 + 1 + 1, fun k hk => ?_, ?_, ?_, ⟨hv.1, hv.2, by omega, by omega, by omega⟩, fun h => absurd h hno⟩
      · simp only [spec_l20Ras.l0]
        rw [w64 (x := W * H) (by omega) (by omega), if_neg (by omega), eo k hk, Option.bind_some, if_pos rfl, er k hk, Option.bind_some, if_pos c0, Option.bind_some, e4 k hk, Option.bind_some, if_pos t0, if_pos (by simpa using t1), w64 (by omega) (by omega)]
      · omega
      · omega
    by_cases c1 : r = 1
    · have hv : (-10 : Int) ≤ rd [0, 7] t2 ∧ rd [0, 7] t2 ≤ 10 := rdAll (P := fun z => (-10 : Int) ≤ z ∧ z ≤ 10) (by intro z hz; simp only [List.mem_cons, List.not_mem_nil, or_false] at hz; omega) z0 (by simpa using z1)
      refine ⟨W, rd [0, 7] t2, x, q1 + 1 + 1, fun k hk => ?_, ?_, ?_, ⟨by omega, by omega, hv.1, hv.2, by omega⟩, fun h => absurd h hno⟩
      · simp only [spec_l20Ras.l0]
        rw [w64 (x := W * H) (by omega) (by omega), if_neg (by omega), eo k hk, Option.bind_some, if_pos rfl, er k hk, Option.bind_some, if_neg c0, if_pos c1, Option.bind_some, e2 k hk, Option.bind_some, if_pos z0, if_pos (by simpa using z1)]
      · omega
      · omega
    by_cases c2 : r = 2
    · refine ⟨W, H, x.drop (1 : Int).toNat, q1 + 1, fun k hk => ?_, ?_, ?_, ⟨by omega, by omega, by omega, by omega, by rw [List.length_drop]; omega⟩, fun h => absurd h hno⟩
      · simp only [spec_l20Ras.l0]
        rw [w64 (x := W * H) (by omega) (by omega), if_neg (by omega), eo k hk, Option.bind_some, if_pos rfl, er k hk, Option.bind_some, if_neg c0, if_neg c1, if_pos c2, if_pos (by omega)]
      · omega
      · omega
    · refine ⟨W, H, x.set tl.toNat ⟨(rd_T38 x tl).f0, rd [-1, 256] te, (rd_T38 x tl).f2, (rd_T38 x tl).f3⟩, q1 + 1 + 1 + 1, fun k hk => ?_, ?_, ?_, ⟨by omega, by omega, by omega, by omega, by rw [List.length_set]; omega⟩, fun h => absurd h hno⟩
      · simp only [spec_l20Ras.l0]
        rw [w64 (x := W * H) (by omega) (by omega), if_neg (by omega), eo k hk, Option.bind_some, if_pos rfl, er k hk, Option.bind_some, if_neg c0, if_neg c1, if_neg c2, el k hk, Option.bind_some, Option.bind_some, ee k hk, Option.bind_some, if_pos v0, if_pos (by simpa using v1), if_pos y0, if_pos (by omega)]
      · omega
      · omega
theorem ras_l (s : List Int) (hs : Bytes s) (hl : s.length ≤ 2000) (W H : Int) (hW : 1 ≤ W ∧ W ≤ 6) (hH : 1 ≤ H ∧ H ≤ 6) (n : Int) (hn : n ≤ 1000000) : ∀ (t : Nat) (x : List S38) (p a b c d : Int), (x.length : Int) + t = W * H → (∀ q ∈ x, GoodP q) → PixP a b c d → 0 ≤ p → p + 9 * t ≤ 700000 →
    ∃ W' H' l q, (∀ k, t + 2 ≤ k → spec_l20Ras.l0 k n (x.length : Int) s p W H x a b c d = some (W', H', l, q)) ∧ p ≤ q ∧ q ≤ p + 9 * t + 10 ∧ RasD W' H' l ∧ (n ≤ 0 → RasP W' H' l) := by
  have hm := mulB hW hH
  intro t
  induction t with
  | zero =>
    intro x p a b c d hx hg _ h0 h1
    obtain ⟨W', H', l, q, he, h2, h3, h4, h5⟩ := rasEnd s hs hl W H hW hH x (by omega) hg n (x.length : Int) p a b c d (by omega) h0 (by omega) hn
    refine ⟨W', H', l, q, fun k hk => ?_, h2, by omega, h4, h5⟩
    obtain ⟨k, rfl⟩ : ∃ m, k = m + 1 := ⟨k - 1, by omega⟩
    exact he k (by omega)
  | succ t ih =>
    intro x p a b c d hx hg hp h0 h1
    obtain ⟨r, er, r0, r1, _⟩ := pick_ok s hs hl p 3 h0 (by omega)
    by_cases hr : r > 0
    · obtain ⟨a', b', c', d', ep, hp'⟩ := pix_ok s hs hl (p + 1) (by omega) (by omega)
      obtain ⟨W', H', l, q, he, h2, h3, h4, h5⟩ := ih (x ++ [⟨a', b', c', d'⟩]) (p + 1 + 1 + 1 + 1 + 1 + 1 + 1 + 1 + 1) a' b' c' d' (by rw [List.length_append, List.length_singleton]; omega) (fun q hq => by
        rcases List.mem_append.1 hq with hq | hq
        · exact hg q hq
        · rw [List.mem_singleton] at hq; subst hq; exact hp') hp' (by omega) (by omega)
      refine ⟨W', H', l, q, fun k hk => ?_, by omega, by omega, h4, h5⟩
      obtain ⟨k, rfl⟩ : ∃ m, k = m + 1 := ⟨k - 1, by omega⟩
      simp only [spec_l20Ras.l0]
      rw [w64 (x := W * H) (by omega) (by omega), if_pos (by omega), er k (by omega), Option.bind_some, if_pos hr, ep k (by omega), Option.bind_some, if_pos (by omega), w64 (by omega) (by omega)]
      have e := he k (by omega)
      rw [List.length_append, List.length_singleton, Int.natCast_add] at e
      exact e
    · obtain ⟨W', H', l, q, he, h2, h3, h4, h5⟩ := ih (x ++ [⟨a, b, c, d⟩]) (p + 1) a b c d (by rw [List.length_append, List.length_singleton]; omega) (fun q hq => by
        rcases List.mem_append.1 hq with hq | hq
        · exact hg q hq
        · rw [List.mem_singleton] at hq; subst hq; exact hp) hp (by omega) (by omega)
      refine ⟨W', H', l, q, fun k hk => ?_, by omega, by omega, h4, h5⟩
      obtain ⟨k, rfl⟩ : ∃ m, k = m + 1 := ⟨k - 1, by omega⟩
      simp only [spec_l20Ras.l0]
      rw [w64 (x := W * H) (by omega) (by omega), if_pos (by omega), er k (by omega), Option.bind_some, if_neg hr, if_pos (by omega), w64 (by omega) (by omega)]
      have e := he k (by omega)
      rw [List.length_append, List.length_singleton, Int.natCast_add] at e
      exact e
theorem ras_ok (s : List Int) (hs : Bytes s) (hl : s.length ≤ 2000) (p n : Int) (h0 : 0 ≤ p) (h1 : p ≤ 600000) (hn : n ≤ 1000000) :
    ∃ W H l q, (∀ k, 50 ≤ k → spec_l20Ras.f k s p n = some (W, H, l, q)) ∧ p ≤ q ∧ q ≤ p + 500 ∧ RasD W H l ∧ (n ≤ 0 → RasP W H l) := by
  obtain ⟨r1, e1, l1, u1, _⟩ := pick_ok s hs hl p 6 h0 (by omega)
  obtain ⟨r2, e2, l2, u2, _⟩ := pick_ok s hs hl (p + 1) 6 (by omega) (by omega)
  replace u1 := u1 (by omega)
  replace u2 := u2 (by omega)
  obtain ⟨a, b, c, d, ep, hp⟩ := pix_ok s hs hl (p + 1 + 1) (by omega) (by omega)
  have hW : 1 ≤ 1 + r1 ∧ 1 + r1 ≤ 6 := ⟨by omega, by omega⟩
  have hH : 1 ≤ 1 + r2 ∧ 1 + r2 ≤ 6 := ⟨by omega, by omega⟩
  have hm := mulB hW hH
  obtain ⟨t, ht⟩ := Int.eq_ofNat_of_zero_le (show 0 ≤ (1 + r1) * (1 + r2) by omega)
  obtain ⟨W, H, l, q, he, h2, h3, h4, h5⟩ := ras_l s hs hl (1 + r1) (1 + r2) hW hH n hn t [] (p + 1 + 1 + 1 + 1 + 1 + 1 + 1 + 1 + 1 + 1) a b c d (by simp; omega) (fun q hq => by cases hq) hp (by omega) (by omega)
  refine ⟨W, H, l, q, fun k hk => ?_, by omega, by omega, h4, h5⟩
  unfold spec_l20Ras.f
  rw [e1 k (by omega), Option.bind_some, e2 k (by omega), Option.bind_some, ep k (by omega), Option.bind_some, w64 (by omega) (by omega), w64 (by omega) (by omega)]
  exact he k (by omega)
end Go.Proofs.Ythnmeogafklhnaa.Pl
