/- Each place of a drawn picture has its colour: the pure statement of the law FnRasAt. No condition. -/
import Derived.Test.YtmkiajoanblkbaaPlDrawRas
import Derived.Test.YtmkiajoanblkbaaPlRasAtS
import Derived.Test.YtmkiajoanblkbaaPlEaOk
import Derived.Test.YtmkiajoanblkbaaX0
import Derived.Test.YtmkiajoanblkbaaX50
import Derived.Test.YtmkiajoanblkbaaX56
namespace Go.Proofs.Ytmkiajoanblkbaa.Pure
open Go Go.RowKit Go.Proofs.Ytmkiajoanblkbaa.X Go.Proofs.Ytmkiajoanblkbaa.Pl Go.Proofs.YtmkiajoanblkbaaW.PrintWords Go.Proofs.YtmkiajoanblkbaaW.PrintLast Go.Proofs.YtmkiajoanblkbaaW.PrintMore
theorem at_in {W H : Int} {l : List S39} (hr : RasP W H l) {n : Nat} (hn : n < l.length) {x y : Int} (x0 : 0 ≤ x) (x1 : x < W) (y0 : 0 ≤ y) (y1 : y < H) (e : (n : Int) = y * W + x) : atP W H l x y = (l[n].f0, l[n].f1, l[n].f2, l[n].f3) := by
  unfold atP
  rw [if_pos ⟨hr, x0, x1, y0, y1⟩, ← e, rdP hn]
theorem rasAt_l {W H : Int} {l : List S39} (hr : RasP W H l) : ∀ (dy : Nat) (y : Int), 0 ≤ y → y + dy = H → ∀ (dx : Nat) (x : Int), 0 ≤ x → x + dx = W → y < H → ∀ (k n : Nat) (m : List S39), m = l.take n → (n : Int) = y * W + x → dy * 10 + dx + 50 < k → laws_FnRasAt.l1 k m y x W H l = some true := by
  have hlen := hr.len
  obtain ⟨hW, hH, hn, _⟩ := id hr
  intro dy
  induction dy with
  | zero => intro y h0 h1 dx x _ _ h2; omega
  | succ dy ihy =>
    intro y h0 h1 dx
    induction dx with
    | zero =>
      intro x x0 x1 y1 k n m hm hnn hk
      obtain ⟨k, rfl⟩ : ∃ q, k = q + 1 + 1 := ⟨k - 2, by omega⟩
      simp only [laws_FnRasAt.l1]
      rw [if_neg (by omega), w64 (by omega) (by omega)]
      simp only [laws_FnRasAt.l0]
      by_cases hy : y + 1 < H
      · rw [if_pos hy]
        exact ihy (y + 1) (by omega) (by omega) W.toNat 0 (by omega) (by omega) hy k n m hm (by rw [Int.add_mul]; omega) (by omega)
      · have hnl : n = l.length := by
          have : y = H - 1 := by omega
          subst this
          have e : (H - 1) * W + W = W * H := by rw [Int.sub_mul, Int.mul_comm]; omega
          omega
        subst hnl
        rw [List.take_of_length_le (Nat.le_refl _)] at hm
        subst hm
        rw [if_neg hy, eaRas_self W H m (by omega) k (by omega), Option.bind_some]
    | succ dx ihx =>
      intro x x0 x1 y1 k n m hm hnn hk
      obtain ⟨k, rfl⟩ : ∃ q, k = q + 1 := ⟨k - 1, by omega⟩
      have hp := placeB hW hH x0 (show x < W by omega) h0 y1
      have hnl : n < l.length := by omega
      simp only [laws_FnRasAt.l1]
      rw [if_pos (by omega), implRasAt_ok W H l x y (by omega) k (by omega), Option.bind_some, at_in hr hnl x0 (by omega) h0 y1 hnn, if_pos (by rw [hm, List.length_take]; omega), w64 (by omega) (by omega)]
      exact ihx (x + 1) (by omega) (by omega) y1 k (n + 1) _ (by rw [take_snoc l n hnl, hm]) (by omega) (by omega)
theorem rasAt_j {W H : Int} {l : List S39} (_ : l.length ≤ 36) (k : Nat) (hk : 300 ≤ k) (x y : Int) (b : Bool) (hb : b = true → atP W H l x y = (0, 0, 0, 0)) (hf : b = false → RasP W H l) :
    laws_FnRasAt.j0 k b W H l (atP W H l x y).1 (atP W H l x y).2.1 (atP W H l x y).2.2.1 (atP W H l x y).2.2.2 = some true := by
  obtain ⟨k, rfl⟩ : ∃ q, k = q + 1 := ⟨k - 1, by omega⟩
  simp only [laws_FnRasAt.j0]
  cases b with
  | true => rw [if_pos rfl, hb rfl, if_pos (by decide), eaOk_ok, Option.bind_some]
  | false =>
    have hr := hf rfl
    rw [if_neg (by decide)]
    obtain ⟨k, rfl⟩ : ∃ q, k = q + 1 := ⟨k - 1, by omega⟩
    simp only [laws_FnRasAt.l0]
    rw [if_pos (by have := hr.2.1.1; omega)]
    exact rasAt_l hr H.toNat 0 (by omega) (by have := hr.2.1.1; omega) W.toNat 0 (by omega) (by have := hr.1.1; omega) (by have := hr.2.1.1; omega) k 0 [] (by simp) (by simp) (by have := hr.1.2; have := hr.2.1.2; omega)
theorem FnRasAt : laws_FnRasAt.Pure := by
  intro l _ _ hb
  obtain ⟨k, hk⟩ : ∃ k : Nat, 1000 ≤ k := ⟨1000, by omega⟩
  refine ⟨k, ?_⟩
  unfold laws_FnRasAt.f
  by_cases h : (l.length : Int) > 1048576
  · rw [if_pos h]
  obtain ⟨s, hs, hsb, hsl, _⟩ := open_ok l (bytes_wf hb)
  obtain ⟨W, H, r, q, he, hq0, hq1, hd, _⟩ := ras_ok s hsb hsl 0 9 (by omega) (by omega) (by omega)
  obtain ⟨r1, e1, l1, u1, _⟩ := pick_ok s hsb hsl q 9 (by omega) (by omega)
  obtain ⟨r2, e2, l2, u2, _⟩ := pick_ok s hsb hsl (q + 1) 9 (by omega) (by omega)
  replace u1 := u1 (by omega)
  replace u2 := u2 (by omega)
  obtain ⟨d1, d2, d3, d4, d5⟩ := hd
  have hdraw : spec_DrawRasAt.f k l = some (W, H, r, r1 - 1, r2 - 1) := by
    unfold spec_DrawRasAt.f
    rw [hs, Option.bind_some, he k (by omega), Option.bind_some, e1 k (by omega), Option.bind_some, e2 k (by omega), Option.bind_some, w64 (by omega) (by omega), w64 (by omega) (by omega)]
  rw [if_neg h, hdraw, Option.bind_some, implRasAt_ok W H r _ _ (by omega) k (by omega), Option.bind_some, specRasAt_ok W H r _ _ (by omega) k (by omega), Option.bind_some, if_neg (by simp), specRasOk_ok W H r (by omega) k (by omega), Option.bind_some]
  by_cases hr : RasP W H r
  · rw [if_pos (decide_eq_true hr)]
    have hz (g : ¬ (RasP W H r ∧ 0 ≤ r1 - 1 ∧ r1 - 1 < W ∧ 0 ≤ r2 - 1 ∧ r2 - 1 < H)) : atP W H r (r1 - 1) (r2 - 1) = (0, 0, 0, 0) := by unfold atP; rw [if_neg g]
    by_cases a1 : r1 - 1 < 0
    · rw [if_pos a1]; exact rasAt_j d5 k (by omega) _ _ true (fun _ => hz (by omega)) (fun h => by cases h)
    by_cases a2 : r1 - 1 ≥ W
    · rw [if_neg a1, if_pos a2]; exact rasAt_j d5 k (by omega) _ _ true (fun _ => hz (by omega)) (fun h => by cases h)
    by_cases a3 : r2 - 1 < 0
    · rw [if_neg a1, if_neg a2, if_pos a3]; exact rasAt_j d5 k (by omega) _ _ true (fun _ => hz (by omega)) (fun h => by cases h)
    rw [if_neg a1, if_neg a2, if_neg a3]
    exact rasAt_j d5 k (by omega) _ _ _ (fun h => hz (by have g : r2 - 1 ≥ H := of_decide_eq_true h; omega)) (fun _ => hr)
  · rw [if_neg (show ¬ decide (RasP W H r) = true from fun h => hr (of_decide_eq_true h))]
    exact rasAt_j d5 k (by omega) _ _ true (fun _ => by unfold atP; rw [if_neg (fun h => hr h.1)]) (fun h => by cases h)
end Go.Proofs.Ytmkiajoanblkbaa.Pure
