/- Parts of parts are one part: the pure statement of the law FnFoldCrop. No condition. -/
import Derived.Test.YtjkaalcocgioaaaPlFold
import Derived.Test.YtjkaalcocgioaaaX0
import Derived.Test.YtjkaalcocgioaaaX14
import Derived.Test.YtjkaalcocgioaaaX15
namespace Go.Proofs.Ytjkaalcocgioaaa.Pure
open Go Go.RowKit Go.Proofs.Ytjkaalcocgioaaa.X Go.Proofs.Ytjkaalcocgioaaa.Pl Go.Proofs.YtjkaalcocgioaaaW.PrintWords Go.Proofs.YtjkaalcocgioaaaW.PrintLast Go.Proofs.YtjkaalcocgioaaaW.PrintMore
/-- A part that lies in one, and where they lie together. -/
def InO (X Y W H : Int) (o : S25) : Prop := o.f0 = 1 ∧ 0 ≤ o.f1 ∧ 0 ≤ o.f2 ∧ o.f1 + o.f3 ≤ W ∧ o.f2 + o.f4 ≤ H ∧ 1 ≤ o.f3 ∧ 1 ≤ o.f4 ∧ X + o.f1 ≤ 5 ∧ Y + o.f2 ≤ 5
/-- Parts, each of which lies in the one ahead of it. -/
def Ch (X Y W H : Int) : List S25 → Int → Int → Int → Int → Prop
 | [], x, y, w, h => X = x ∧ Y = y ∧ W = w ∧ H = h
 | o :: t, x, y, w, h => InO X Y W H o ∧ Ch (X + o.f1) (Y + o.f2) o.f3 o.f4 t x y w h
theorem ch_snoc : ∀ (L : List S25) (X Y W H x y w h : Int) (o : S25), Ch X Y W H L x y w h → InO x y w h o → Ch X Y W H (L ++ [o]) (x + o.f1) (y + o.f2) o.f3 o.f4 := by
  intro L
  induction L with
  | nil =>
    intro X Y W H x y w h o hc ho
    obtain ⟨rfl, rfl, rfl, rfl⟩ := hc
    exact ⟨ho, rfl, rfl, rfl, rfl⟩
  | cons q t ih =>
    intro X Y W H x y w h o hc ho
    exact ⟨hc.1, ih _ _ _ _ _ _ _ _ o hc.2 ho⟩
theorem ch_good : ∀ (L : List S25) (X Y W H x y w h : Int), 0 ≤ X → 0 ≤ Y → W ≤ 6 → H ≤ 6 → Ch X Y W H L x y w h → ∀ o ∈ L, GoodO o := by
  intro L
  induction L with
  | nil => intro X Y W H x y w h _ _ _ _ _ o ho; cases ho
  | cons q t ih =>
    intro X Y W H x y w h h1 h2 h3 h4 hc o ho
    obtain ⟨⟨c0, c1, c2, c3, c4, c5, c6, c7, c8⟩, hc2⟩ := hc
    rcases List.mem_cons.1 ho with rfl | ho
    · exact Or.inl ⟨c0, ⟨c1, by omega⟩, ⟨c2, by omega⟩, ⟨c5, by omega⟩, ⟨c6, by omega⟩⟩
    · exact ih _ _ _ _ _ _ _ _ (by omega) (by omega) (by omega) (by omega) hc2 o ho
theorem once_one (o : S25) : of_once [o] = none := by
  show of_from [o] 1 0 = none
  rw [from_succ]
  have h2 : ¬ 0 + 2 ≤ [o].length := by simp
  unfold atR
  rw [if_neg (by rw [hit_short h2]; decide), dif_neg h2]; rfl
theorem once_two (a b : S25) (t : List S25) (q : List S25) (ha : a.f0 = 1) (h : pairR a b = some q) : of_once (a :: b :: t) = some (q ++ t) := by
  show of_from (a :: b :: t) ((b :: t).length + 1) 0 = _
  rw [from_succ]
  have h2 : 0 + 2 ≤ (a :: b :: t).length := by simp only [List.length_cons]; omega
  have h0 : of_hit (a :: b :: t) 0 0 = false := by
    show (decide (0 + 4 ≤ (a :: b :: t).length) && of_all 4 (of_part (a :: b :: t) 0 4)) = false
    rw [part_cons (show 0 < (a :: b :: t).length by simp only [List.length_cons]; omega), Bool.and_eq_false_iff]
    right
    unfold of_all
    rw [List.all_cons, show ((a :: b :: t)[0].f0 == 4) = false from by show (a.f0 == 4) = false; rw [ha]; rfl, Bool.false_and]
  unfold atR
  rw [if_neg (by rw [h0]; decide), dif_pos h2]
  show ((pairR a b).map _).orElse _ = _
  rw [h]
  simp
theorem ch_fold : ∀ (t : List S25) (X Y W H x y w h : Int) (d : Nat), 0 ≤ X → 0 ≤ Y → X ≤ 5 → Y ≤ 5 → W ≤ 6 → H ≤ 6 → Ch X Y W H t x y w h → t.length + 1 ≤ d → of_loop d (⟨1, X, Y, W, H⟩ :: t) = [⟨1, x, y, w, h⟩] := by
  intro t
  induction t with
  | nil =>
    intro X Y W H x y w h d _ _ _ _ _ _ hc hd
    obtain ⟨rfl, rfl, rfl, rfl⟩ := hc
    obtain ⟨d, rfl⟩ : ∃ m, d = m + 1 := ⟨d - 1, by omega⟩
    exact loop_none (once_one _) d
  | cons o t ih =>
    intro X Y W H x y w h d h1 h2 h3 h4 h5 h6 hc hd
    obtain ⟨⟨c0, c1, c2, c3, c4, c5, c6, c7, c8⟩, hc2⟩ := hc
    obtain ⟨d, rfl⟩ : ∃ m, d = m + 1 := ⟨d - 1, by omega⟩
    have hp : pairR ⟨1, X, Y, W, H⟩ o = some [⟨1, X + o.f1, Y + o.f2, o.f3, o.f4⟩] := by
      unfold pairR
      dsimp only
      rw [if_pos c0.symm, if_neg (by decide), if_neg (by omega), w64 (x := o.f1 + o.f3) (by omega) (by omega), w64 (x := o.f2 + o.f4) (by omega) (by omega), w64 (x := X + o.f1) (by omega) (by omega), w64 (x := Y + o.f2) (by omega) (by omega), if_pos ⟨rfl, c3, c4, by omega, by omega⟩]
    rw [loop_succ, once_two _ o t _ rfl hp]
    exact ih _ _ _ _ _ _ _ _ d (by omega) (by omega) c7 c8 (by omega) (by omega) hc2 (by rw [List.length_cons] at hd; omega)
theorem ch_all (L : List S25) (x y w h : Int) (hc : Ch 0 0 6 6 L x y w h) (h1 : 1 ≤ L.length) (h5 : L.length ≤ 5) : foldR L = [⟨1, x, y, w, h⟩] := by
  have ha : AllO L := And.intro h5 (ch_good L 0 0 6 6 x y w h (by decide) (by decide) (by decide) (by decide) hc)
  unfold foldR
  rw [if_pos ha]
  cases L with
  | nil => cases h1
  | cons o t =>
    obtain ⟨⟨c0, c1, c2, c3, c4, c5, c6, c7, c8⟩, hc2⟩ := hc
    rw [Int.zero_add] at c7 c8 hc2
    rw [Int.zero_add] at hc2
    have ho : o = ⟨1, o.f1, o.f2, o.f3, o.f4⟩ := by rw [← c0]
    rw [ho]
    exact ch_fold t o.f1 o.f2 o.f3 o.f4 x y w h _ c1 c2 c7 c8 (by omega) (by omega) hc2 (by rw [List.length_cons]; omega)
theorem mn_two (w : Int) (h : 1 ≤ w) : 1 ≤ mn w 2 ∧ mn w 2 ≤ 2 ∧ mn w 2 ≤ w := by unfold mn; omega
theorem tm (n m : Int) (hn : 0 ≤ n) (hm : 1 ≤ m) : 0 ≤ Int.tmod n m ∧ Int.tmod n m < m := ⟨Int.tmod_nonneg _ hn, Int.tmod_lt_of_pos _ (by omega)⟩
theorem crop_l (l : List Int) (hl : l.length ≤ 1048576) : ∀ (d i k : Nat) (w h : Int) (L : List S25), (i : Int) + d = 1 + (l.length : Int) % 5 → d + 50 < k → L.length = i → 6 - i ≤ w → w ≤ 6 → 6 - i ≤ h → h ≤ 6 → Ch 0 0 6 6 L (6 - w) (6 - h) w h → laws_FnFoldCrop.l0 k l w h (6 - w) (6 - h) L (i : Int) = some true := by
  intro d
  induction d with
  | zero =>
    intro i k w h L hi hk hL _ _ _ _ hc
    obtain ⟨k, rfl⟩ : ∃ m, k = m + 1 := ⟨k - 1, by omega⟩
    have hf := ch_all L (6 - w) (6 - h) w h hc (by omega) (by omega)
    simp only [laws_FnFoldCrop.l0]
    rw [if_neg (by omega), implOpsFold_ok L (by omega) k (by omega), Option.bind_some, hf, if_pos (by rfl), if_pos (by show (0 : Int) < 1; decide)]
    rw [show rd_T25 [(⟨1, 6 - w, 6 - h, w, h⟩ : S25)] 0 = ⟨1, 6 - w, 6 - h, w, h⟩ from rfl]
    simp
  | succ d ih =>
    intro i k w h L hi hk hL hw0 hw1 hh0 hh1 hc
    obtain ⟨k, rfl⟩ : ∃ m, k = m + 1 := ⟨k - 1, by omega⟩
    have hi4 : i ≤ 4 := by omega
    obtain ⟨mw1, mw2, mw3⟩ := mn_two w (by omega)
    obtain ⟨mh1, mh2, mh3⟩ := mn_two h (by omega)
    have hq1 : 0 ≤ (l.length : Int) / ((i : Int) + 1) ∧ (l.length : Int) / ((i : Int) + 1) ≤ 1048576 := ⟨Int.ediv_nonneg (by omega) (by omega), Int.le_trans (Int.ediv_le_self _ (by omega)) (by omega)⟩
    have hq2 : 0 ≤ (l.length : Int) / ((i : Int) + 2) ∧ (l.length : Int) / ((i : Int) + 2) ≤ 1048576 := ⟨Int.ediv_nonneg (by omega) (by omega), Int.le_trans (Int.ediv_le_self _ (by omega)) (by omega)⟩
    obtain ⟨a0, a1⟩ := tm ((l.length : Int) / ((i : Int) + 1)) (mn w 2) hq1.1 mw1
    obtain ⟨b0, b1⟩ := tm ((l.length : Int) / ((i : Int) + 2)) (mn h 2) hq2.1 mh1
    simp only [laws_FnFoldCrop.l0]
    rw [if_pos (by omega), w64 (x := (i : Int) + 1) (by omega) (by omega), w64 (x := (i : Int) + 2) (by omega) (by omega), if_neg (by omega), if_neg (by omega), if_neg (by omega), if_neg (by omega), if_pos (by omega), w64 (x := (l.length : Int) / ((i : Int) + 1)) (by omega) (by omega), w64 (x := (l.length : Int) / ((i : Int) + 2)) (by omega) (by omega)]
    generalize Int.tmod ((l.length : Int) / ((i : Int) + 1)) (mn w 2) = a at a0 a1 ⊢
    generalize Int.tmod ((l.length : Int) / ((i : Int) + 2)) (mn h 2) = b at b0 b1 ⊢
    rw [w64 (x := w - a) (by omega) (by omega), w64 (x := h - b) (by omega) (by omega), w64 (x := 6 - w + a) (by omega) (by omega), w64 (x := 6 - h + b) (by omega) (by omega)]
    have ho : InO (6 - w) (6 - h) w h ⟨1, a, b, w - a, h - b⟩ := ⟨rfl, a0, b0, by show a + (w - a) ≤ w; omega, by show b + (h - b) ≤ h; omega, by show 1 ≤ w - a; omega, by show 1 ≤ h - b; omega, by show 6 - w + a ≤ 5; omega, by show 6 - h + b ≤ 5; omega⟩
    have hc2 := ch_snoc L 0 0 6 6 (6 - w) (6 - h) w h ⟨1, a, b, w - a, h - b⟩ hc ho
    dsimp only at hc2
    have ex : 6 - w + a = 6 - (w - a) := by omega
    have ey : 6 - h + b = 6 - (h - b) := by omega
    rw [ex, ey] at hc2 ⊢
    have e := ih (i + 1) k (w - a) (h - b) (L ++ [⟨1, a, b, w - a, h - b⟩]) (by omega) (by omega) (by rw [List.length_append, List.length_singleton]; omega) (by omega) (by omega) (by omega) (by omega) hc2
    rw [Int.natCast_add] at e
    exact e
theorem FnFoldCrop : laws_FnFoldCrop.Pure := by
  intro l _ _ _
  obtain ⟨k, hk⟩ : ∃ k : Nat, 1000 ≤ k := ⟨1000, by omega⟩
  refine ⟨k, ?_⟩
  unfold laws_FnFoldCrop.f
  by_cases h : (l.length : Int) > 1048576
  · rw [if_pos h]
  rw [if_neg h]
  exact crop_l l (by omega) (1 + l.length % 5) 0 k 6 6 [] (by omega) (by omega) rfl (by omega) (by omega) (by omega) (by omega) ⟨rfl, rfl, rfl, rfl⟩
end Go.Proofs.Ytjkaalcocgioaaa.Pure
