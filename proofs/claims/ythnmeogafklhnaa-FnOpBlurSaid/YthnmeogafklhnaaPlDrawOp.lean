/- What is drawn as an operation, and as a picture with one: the drawing ends. The code is bytes, no more than 2000. -/
import Derived.Test.YthnmeogafklhnaaPlDrawRas
import Derived.Test.YthnmeogafklhnaaX0
import Derived.Test.YthnmeogafklhnaaX8
import Derived.Test.YthnmeogafklhnaaX9
namespace Go.Proofs.Ythnmeogafklhnaa.Pl
open Go Go.RowKit Go.Proofs.Ythnmeogafklhnaa.X Go.Proofs.YthnmeogafklhnaaW.PrintWords Go.Proofs.YthnmeogafklhnaaW.PrintLast Go.Proofs.YthnmeogafklhnaaW.PrintMore
theorem opEnd (s : List Int) (hs : Bytes s) (hl : s.length ≤ 2000) (p n K A B C D : Int) (h0 : 0 ≤ p) (h1 : p ≤ 800000) (hn : n ≤ 1000000) :
    ∃ R : Int × Int × Int × Int × Int × Int, ∀ k, 2 ≤ k → spec_l20Op.j0 k n s p K A B C D = some R := by
  obtain ⟨o, q1, eo, ho0, ho1, hof⟩ := odd_ok s hs hl p n h0 (by omega) hn
  cases o with
  | false =>
    refine ⟨(K, A, B, C, D, q1), fun k hk => ?_⟩
    obtain ⟨k, rfl⟩ : ∃ m, k = m + 1 := ⟨k - 1, by omega⟩
    simp only [spec_l20Op.j0]
    rw [eo k (by omega), Option.bind_some, if_neg (by simp)]
  | true =>
    obtain ⟨r, er, r0, r1, _⟩ := pick_ok s hs hl q1 4 (by omega) (by omega)
    obtain ⟨t, et, t0, t1, _⟩ := pick_ok s hs hl (q1 + 1) 2 (by omega) (by omega)
    replace t1 := t1 (by omega)
    by_cases c0 : r = 0
    · refine ⟨(rd [0, 9] t, A, B, C, D, q1 + 1 + 1), fun k hk => ?_⟩
      obtain ⟨k, rfl⟩ : ∃ m, k = m + 1 := ⟨k - 1, by omega⟩
      simp only [spec_l20Op.j0]
      rw [eo k (by omega), Option.bind_some, if_pos rfl, er k (by omega), Option.bind_some, if_pos c0, Option.bind_some, et k (by omega), Option.bind_some, if_pos t0, if_pos (by simpa using t1)]
    by_cases c1 : r = 1
    · refine ⟨(K, rd [-1, 256] t, B, C, D, q1 + 1 + 1), fun k hk => ?_⟩
      obtain ⟨k, rfl⟩ : ∃ m, k = m + 1 := ⟨k - 1, by omega⟩
      simp only [spec_l20Op.j0]
      rw [eo k (by omega), Option.bind_some, if_pos rfl, er k (by omega), Option.bind_some, if_neg c0, if_pos c1, Option.bind_some, et k (by omega), Option.bind_some, if_pos t0, if_pos (by simpa using t1)]
    by_cases c2 : r = 2
    · refine ⟨(K, A, B, rd [-1, 256] t, D, q1 + 1 + 1), fun k hk => ?_⟩
      obtain ⟨k, rfl⟩ : ∃ m, k = m + 1 := ⟨k - 1, by omega⟩
      simp only [spec_l20Op.j0]
      rw [eo k (by omega), Option.bind_some, if_pos rfl, er k (by omega), Option.bind_some, if_neg c0, if_neg c1, if_pos c2, Option.bind_some, et k (by omega), Option.bind_some, if_pos t0, if_pos (by simpa using t1)]
    · refine ⟨(K, A, B, C, rd [1, 7] t, q1 + 1 + 1), fun k hk => ?_⟩
      obtain ⟨k, rfl⟩ : ∃ m, k = m + 1 := ⟨k - 1, by omega⟩
      simp only [spec_l20Op.j0]
      rw [eo k (by omega), Option.bind_some, if_pos rfl, er k (by omega), Option.bind_some, if_neg c0, if_neg c1, if_neg c2, Option.bind_some, et k (by omega), Option.bind_some, if_pos t0, if_pos (by simpa using t1)]
theorem op_ok (s : List Int) (hs : Bytes s) (hl : s.length ≤ 2000) (p n : Int) (h0 : 0 ≤ p) (h1 : p ≤ 700000) (hn : n ≤ 1000000) :
    ∃ R : Int × Int × Int × Int × Int × Int, ∀ k, 2 ≤ k → spec_l20Op.f k s p n = some R := by
  obtain ⟨r, er, r0, r1, _⟩ := pick_ok s hs hl p 8 h0 (by omega)
  replace r1 := r1 (by omega)
  by_cases c1 : wrap64 (1 + r) = 1
  · obtain ⟨r2, e2, _, _, _⟩ := pick_ok s hs hl (p + 1) 3 (by omega) (by omega)
    obtain ⟨r3, e3, _, _, _⟩ := pick_ok s hs hl (p + 1 + 1) 3 (by omega) (by omega)
    obtain ⟨r4, e4, _, _, _⟩ := pick_ok s hs hl (p + 1 + 1 + 1) 4 (by omega) (by omega)
    obtain ⟨r5, e5, _, _, _⟩ := pick_ok s hs hl (p + 1 + 1 + 1 + 1) 4 (by omega) (by omega)
    obtain ⟨R, hR⟩ := opEnd s hs hl (p + 1 + 1 + 1 + 1 + 1) n 1 r2 r3 (wrap64 (1 + r4)) (wrap64 (1 + r5)) (by omega) (by omega) hn
    refine ⟨R, fun k hk => ?_⟩
    unfold spec_l20Op.f
    rw [er k (by omega), Option.bind_some, if_pos c1, e2 k (by omega), Option.bind_some, e3 k (by omega), Option.bind_some, e4 k (by omega), Option.bind_some, e5 k (by omega), Option.bind_some]
    exact hR k hk
  by_cases c7 : wrap64 (1 + r) = 7
  · obtain ⟨r2, e2, _, _, _⟩ := pick_ok s hs hl (p + 1) 6 (by omega) (by omega)
    obtain ⟨r3, e3, _, _, _⟩ := pick_ok s hs hl (p + 1 + 1) 6 (by omega) (by omega)
    obtain ⟨R, hR⟩ := opEnd s hs hl (p + 1 + 1 + 1) n 7 (wrap64 (1 + r2)) (wrap64 (1 + r3)) 0 0 (by omega) (by omega) hn
    refine ⟨R, fun k hk => ?_⟩
    unfold spec_l20Op.f
    rw [er k (by omega), Option.bind_some, if_neg c1, if_pos c7, e2 k (by omega), Option.bind_some, e3 k (by omega), Option.bind_some]
    exact hR k hk
  by_cases c8 : wrap64 (1 + r) = 8
  · obtain ⟨r2, e2, _, _, _⟩ := pick_ok s hs hl (p + 1) 256 (by omega) (by omega)
    obtain ⟨r3, e3, _, _, _⟩ := pick_ok s hs hl (p + 1 + 1) 256 (by omega) (by omega)
    obtain ⟨r4, e4, _, _, _⟩ := pick_ok s hs hl (p + 1 + 1 + 1) 256 (by omega) (by omega)
    obtain ⟨R, hR⟩ := opEnd s hs hl (p + 1 + 1 + 1 + 1) n 8 r2 r3 r4 0 (by omega) (by omega) hn
    refine ⟨R, fun k hk => ?_⟩
    unfold spec_l20Op.f
    rw [er k (by omega), Option.bind_some, if_neg c1, if_neg c7, if_pos c8, e2 k (by omega), Option.bind_some, e3 k (by omega), Option.bind_some, e4 k (by omega), Option.bind_some]
    exact hR k hk
  · obtain ⟨R, hR⟩ := opEnd s hs hl (p + 1) n (wrap64 (1 + r)) 0 0 0 0 (by omega) (by omega) hn
    refine ⟨R, fun k hk => ?_⟩
    unfold spec_l20Op.f
    rw [er k (by omega), Option.bind_some, if_neg c1, if_neg c7, if_neg c8]
    exact hR k hk
theorem drawOpDo_ok (l : List Int) (hb : Bytes l) : ∃ W H r K A B C D, (∀ k, 60 ≤ k → spec_DrawOpDo.f k l = some (W, H, r, K, A, B, C, D)) ∧ RasD W H r := by
  obtain ⟨s, ho, hs, hl, _⟩ := open_ok l hb
  obtain ⟨W, H, r, q, he, hq0, hq1, hd, _⟩ := ras_ok s hs hl 0 16 (by omega) (by omega) (by omega)
  obtain ⟨⟨K, A, B, C, D, q2⟩, hR⟩ := op_ok s hs hl q 9 (by omega) (by omega) (by omega)
  refine ⟨W, H, r, K, A, B, C, D, fun k hk => ?_, hd⟩
  unfold spec_DrawOpDo.f
  rw [ho, Option.bind_some, he k (by omega), Option.bind_some, hR k (by omega), Option.bind_some]
end Go.Proofs.Ythnmeogafklhnaa.Pl
