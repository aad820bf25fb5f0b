/- Plain laws of pictures and of what is done with them, and of what is drawn, in one text. No condition but what each states. -/
import Derived.Test.YthnmeogafklhnaaPl
import Derived.Test.YthnmeogafklhnaaPlIn
import Derived.Test.YthnmeogafklhnaaPlPixOk
import Derived.Test.YthnmeogafklhnaaPlRas
import Derived.Test.YthnmeogafklhnaaPlOpOkI
import Derived.Test.YthnmeogafklhnaaX0
import Derived.Test.YthnmeogafklhnaaX3
import Derived.Test.YthnmeogafklhnaaX4
import Derived.Test.YthnmeogafklhnaaX5
import Derived.Test.YthnmeogafklhnaaX6
import Derived.Test.YthnmeogafklhnaaX7
import Derived.Test.YthnmeogafklhnaaX8
import Derived.Test.YthnmeogafklhnaaX9
import Derived.Test.YthnmeogafklhnaaX15
import Derived.Test.YthnmeogafklhnaaX28
import Derived.Test.YthnmeogafklhnaaX30
import Derived.Test.YthnmeogafklhnaaX33
import Derived.Test.YthnmeogafklhnaaX34
import Derived.Test.YthnmeogafklhnaaX35
import Derived.Test.YthnmeogafklhnaaX36
import Derived.Test.YthnmeogafklhnaaX37
import Derived.Test.YthnmeogafklhnaaX38
import Derived.Test.YthnmeogafklhnaaX39
import Derived.Test.YthnmeogafklhnaaX40
import Derived.Test.YthnmeogafklhnaaX41
import Derived.Test.YthnmeogafklhnaaX42
import Derived.Test.YthnmeogafklhnaaX43
import Derived.Test.YthnmeogafklhnaaX44
import Derived.Test.YthnmeogafklhnaaX45
import Derived.Test.YthnmeogafklhnaaX50
namespace Go.Proofs.Ythnmeogafklhnaa.Pl
open Go Go.RowKit Go.Proofs.Ythnmeogafklhnaa.X Go.Proofs.YthnmeogafklhnaaW.PrintWords Go.Proofs.YthnmeogafklhnaaW.PrintLast Go.Proofs.YthnmeogafklhnaaW.PrintMore
theorem eaRas_l (W H W' H' : Int) (l : List S38) (hl : l.length ≤ 1099511627776) : ∀ (d i k : Nat), i + d = l.length → d < k → laws_eaRas.l0 k (i : Int) W H l W' H' l = some true := by
  intro d
  induction d with
  | zero =>
    intro i k hi hk
    obtain ⟨k, rfl⟩ : ∃ m, k = m + 1 := ⟨k - 1, by omega⟩
    simp only [laws_eaRas.l0]
    rw [if_neg (by omega)]
  | succ d ih =>
    intro i k hi hk
    obtain ⟨k, rfl⟩ : ∃ m, k = m + 1 := ⟨k - 1, by omega⟩
    simp only [laws_eaRas.l0]
    rw [if_pos (by omega), if_pos (by omega), if_pos (by omega), if_neg (by simp), w64 (by omega) (by omega)]
    exact ih (i + 1) k (by omega) (by omega)
theorem eaRas_self (W H : Int) (l : List S38) (hl : l.length ≤ 1099511627776) (k : Nat) (hk : l.length + 2 ≤ k) : laws_eaRas.f k W H l W H l = some true := by
  obtain ⟨k, rfl⟩ : ∃ m, k = m + 1 := ⟨k - 1, by omega⟩
  unfold laws_eaRas.f
  rw [if_pos rfl, if_pos rfl]
  simp only [laws_eaRas.j0]
  rw [if_neg (by simp)]
  exact eaRas_l W H W H l hl l.length 0 k (by omega) (by omega)
theorem grid_len (W H : Nat) (c : Int → Int → S38) : (grid W H c).length = W * H := by simp [grid]
theorem grid_get (W H : Nat) (c : Int → Int → S38) (j : Nat) (h : j < (grid W H c).length) : (grid W H c)[j] = c ((j % W : Nat) : Int) ((j / W : Nat) : Int) := by simp [grid]
theorem rd_grid (W H : Nat) (c : Int → Int → S38) (x y : Nat) (hx : x < W) (hy : y < H) : rd_T38 (grid W H c) ((y : Int) * (W : Int) + (x : Int)) = c (x : Int) (y : Int) := by
  have h0 : y * W + W ≤ W * H := by
    have : (y + 1) * W ≤ H * W := Nat.mul_le_mul_right W hy
    rw [Nat.succ_mul] at this
    rw [Nat.mul_comm W H]; exact this
  have h1 : (y * W + x) % W = x := by rw [Nat.add_comm, Nat.add_mul_mod_self_right, Nat.mod_eq_of_lt hx]
  have h2 : (y * W + x) / W = y := by rw [Nat.add_comm, Nat.add_mul_div_right _ _ (by omega), Nat.div_eq_of_lt hx, Nat.zero_add]
  rw [show (y : Int) * (W : Int) + (x : Int) = ((y * W + x : Nat) : Int) by rw [Int.natCast_add, Int.natCast_mul], rdP (show y * W + x < (grid W H c).length by rw [grid_len]; omega), grid_get, h1, h2]
theorem pix_grid (W H : Nat) (c : Int → Int → S38) (x y : Nat) (hx : x < W) (hy : y < H) : pix W (grid W H c) (x : Int) (y : Int) = c (x : Int) (y : Int) := rd_grid W H c x y hx hy
theorem grid_ext {W H : Nat} {c d : Int → Int → S38} (h : ∀ x y : Nat, x < W → y < H → c (x : Int) (y : Int) = d (x : Int) (y : Int)) : grid W H c = grid W H d := by
  unfold grid
  apply List.map_congr_left
  intro j hj
  rw [List.mem_range] at hj
  have hW : 0 < W := by
    rcases Nat.eq_zero_or_pos W with e | e
    · rw [e, Nat.zero_mul] at hj; omega
    · exact e
  exact h _ _ (Nat.mod_lt _ hW) (Nat.div_lt_of_lt_mul hj)
theorem grid_self {W H : Nat} {l : List S38} (h : l.length = W * H) : grid W H (pix W l) = l := by
  apply List.ext_getElem (by rw [grid_len, h])
  intro j h1 h2
  rw [grid_get]
  unfold pix
  rw [show ((j / W : Nat) : Int) * (W : Int) + ((j % W : Nat) : Int) = ((j / W * W + j % W : Nat) : Int) by rw [Int.natCast_add, Int.natCast_mul], Nat.div_add_mod', rdP h2]
/-- A picture: its width, its height, its colours by column and row. -/
structure Pic where
  w : Nat
  h : Nat
  c : Int → Int → S38
def Pic.l (a : Pic) : List S38 := grid a.w a.h a.c
/-- A picture that may be worked on. -/
def Ok (a : Pic) : Prop := (1 ≤ a.w ∧ a.w ≤ 6) ∧ (1 ≤ a.h ∧ a.h ≤ 6) ∧ ∀ x y : Nat, x < a.w → y < a.h → X.PixG (a.c (x : Int) (y : Int))
theorem pixP_good (p : S38) : X.PixG p ↔ GoodP p := by unfold X.PixG GoodP PixP X.PartG; exact Iff.rfl
theorem mem_grid {W H : Nat} {c : Int → Int → S38} {p : S38} (h : p ∈ grid W H c) : ∃ x y : Nat, x < W ∧ y < H ∧ p = c (x : Int) (y : Int) := by
  unfold grid at h
  obtain ⟨j, hj, rfl⟩ := List.mem_map.1 h
  rw [List.mem_range] at hj
  have hW : 0 < W := by
    rcases Nat.eq_zero_or_pos W with e | e
    · rw [e, Nat.zero_mul] at hj; omega
    · exact e
  exact ⟨_, _, Nat.mod_lt _ hW, Nat.div_lt_of_lt_mul hj, rfl⟩
theorem ok_len {a : Pic} (g : Ok a) : a.l.length = a.w * a.h ∧ 1 ≤ a.l.length ∧ a.l.length ≤ 36 := by
  obtain ⟨h1, h2, _⟩ := g
  have e : a.l.length = a.w * a.h := grid_len _ _ _
  have := mulB (W := (a.w : Int)) (H := (a.h : Int)) ⟨by omega, by omega⟩ ⟨by omega, by omega⟩
  rw [← Int.natCast_mul] at this
  omega
theorem ok_fits {a : Pic} (g : Ok a) : FitsN a.w a.h a.l := by
  refine ⟨g.1.1, g.1.2, g.2.1.1, g.2.1.2, (ok_len g).1, fun p hp => ?_⟩
  obtain ⟨x, y, hx, hy, rfl⟩ := mem_grid hp
  exact g.2.2 x y hx hy
theorem ok_ras {a : Pic} (g : Ok a) : RasP (a.w : Int) (a.h : Int) a.l := by
  obtain ⟨h1, h2, h3⟩ := g
  refine ⟨⟨by omega, by omega⟩, ⟨by omega, by omega⟩, by rw [(ok_len ⟨h1, h2, h3⟩).1, Int.natCast_mul], fun p hp => ?_⟩
  obtain ⟨x, y, hx, hy, rfl⟩ := mem_grid hp
  exact (pixP_good _).1 (h3 x y hx hy)
theorem of_ras {W H : Int} {l : List S38} (h : RasP W H l) : ∃ a : Pic, Ok a ∧ W = (a.w : Int) ∧ H = (a.h : Int) ∧ l = a.l := by
  obtain ⟨h1, h2, h3, h4⟩ := h
  obtain ⟨w, rfl⟩ := Int.eq_ofNat_of_zero_le (show 0 ≤ W by omega)
  obtain ⟨h, rfl⟩ := Int.eq_ofNat_of_zero_le (show 0 ≤ H by omega)
  have hl : l.length = w * h := by rw [← Int.natCast_mul] at h3; omega
  have hs := grid_self hl
  refine ⟨⟨w, h, pix w l⟩, ⟨⟨by show 1 ≤ w; omega, by show w ≤ 6; omega⟩, ⟨by show 1 ≤ h; omega, by show h ≤ 6; omega⟩, fun x y hx hy => ?_⟩, rfl, rfl, hs.symm⟩
  have hy' : y + 1 ≤ h := hy
  have hx' : x < w := hx
  have h0 : y * w + x < l.length := by
    have : (y + 1) * w ≤ h * w := Nat.mul_le_mul_right w hy'
    rw [Nat.succ_mul, Nat.mul_comm h w] at this
    omega
  have e : pix w l (x : Int) (y : Int) = l[y * w + x] := by
    unfold pix
    rw [show (y : Int) * (w : Int) + (x : Int) = ((y * w + x : Nat) : Int) by rw [Int.natCast_add, Int.natCast_mul], rdP h0]
  show X.PixG (pix w l (x : Int) (y : Int))
  rw [e]
  exact (pixP_good _).2 (h4 _ (List.getElem_mem h0))
theorem rasOk_pic {a : Pic} (g : Ok a) (k : Nat) (hk : 40 ≤ k) : impl_RasOk.f k (a.w : Int) (a.h : Int) a.l = some true := by
  have := ok_len g
  rw [implRasOk_ok _ _ _ (by omega) k (by omega), decide_eq_true (ok_ras g)]
theorem opQ_iff (q a b c d : Int) : OpQ q a b c d ↔ X.OpP q a b c d := by
  unfold OpQ X.OpP
  constructor
  · rintro (⟨h, ⟨a0, a1⟩, ⟨b0, b1⟩, ⟨c0, c1⟩, ⟨d0, d1⟩⟩ | ⟨⟨h0, h1⟩, a0, b0, c0, d0⟩ | ⟨h, ⟨a0, a1⟩, ⟨b0, b1⟩, c0, d0⟩ | ⟨h, ⟨a0, a1⟩, ⟨b0, b1⟩, ⟨c0, c1⟩, d0⟩)
    · exact Or.inl ⟨h, a0, a1, b0, b1, c0, c1, d0, d1⟩
    · exact Or.inr (Or.inl ⟨h0, h1, a0, b0, c0, d0⟩)
    · exact Or.inr (Or.inr (Or.inl ⟨h, a0, a1, b0, b1, c0, d0⟩))
    · exact Or.inr (Or.inr (Or.inr ⟨h, a0, a1, b0, b1, c0, c1, d0⟩))
  · rintro (⟨h, a0, a1, b0, b1, c0, c1, d0, d1⟩ | ⟨h0, h1, a0, b0, c0, d0⟩ | ⟨h, a0, a1, b0, b1, c0, d0⟩ | ⟨h, a0, a1, b0, b1, c0, c1, d0⟩)
    · exact Or.inl ⟨h, ⟨a0, a1⟩, ⟨b0, b1⟩, ⟨c0, c1⟩, ⟨d0, d1⟩⟩
    · exact Or.inr (Or.inl ⟨⟨h0, h1⟩, a0, b0, c0, d0⟩)
    · exact Or.inr (Or.inr (Or.inl ⟨h, ⟨a0, a1⟩, ⟨b0, b1⟩, c0, d0⟩))
    · exact Or.inr (Or.inr (Or.inr ⟨h, ⟨a0, a1⟩, ⟨b0, b1⟩, ⟨c0, c1⟩, d0⟩))
/-- One operation makes this picture of that one. -/
def Does (a : Pic) (o : S27) (b : Pic) : Prop := X.OpP o.f0 o.f1 o.f2 o.f3 o.f4 ∧ opGo a.w a.h a.l o.f0 o.f1 o.f2 o.f3 o.f4 = ((b.w : Int), (b.h : Int), b.l, true) ∧ Ok b
theorem does_crop {a : Pic} (g : Ok a) (x0 y0 cw ch : Nat) (hw : 1 ≤ cw) (hh : 1 ≤ ch) (hx : x0 + cw ≤ a.w) (hy : y0 + ch ≤ a.h) :
    Does a ⟨1, (x0 : Int), (y0 : Int), (cw : Int), (ch : Int)⟩ ⟨cw, ch, fun x y => a.c ((x0 : Int) + x) ((y0 : Int) + y)⟩ := by
  obtain ⟨g1, g2, g3⟩ := g
  refine ⟨Or.inl ⟨rfl, by show (0 : Int) ≤ (x0 : Int); omega, by show (x0 : Int) ≤ 5; omega, by show (0 : Int) ≤ (y0 : Int); omega, by show (y0 : Int) ≤ 5; omega, by show 1 ≤ (cw : Int); omega, by show (cw : Int) ≤ 6; omega, by show 1 ≤ (ch : Int); omega, by show (ch : Int) ≤ 6; omega⟩, ?_, ⟨⟨hw, by show cw ≤ 6; omega⟩, ⟨hh, by show ch ≤ 6; omega⟩, fun x y hx' hy' => ?_⟩⟩
  · unfold opGo
    rw [if_pos rfl, if_neg (show ¬ ((a.w : Int) < (x0 : Int) + (cw : Int) ∨ (a.h : Int) < (y0 : Int) + (ch : Int)) by omega), Int.toNat_natCast, Int.toNat_natCast]
    congr 3
    refine grid_ext (W := cw) (H := ch) fun x y hx' hy' => ?_
    show pix a.w a.l ((x0 : Int) + (x : Int)) ((y0 : Int) + (y : Int)) = a.c ((x0 : Int) + (x : Int)) ((y0 : Int) + (y : Int))
    rw [← Int.natCast_add, ← Int.natCast_add]
    exact pix_grid a.w a.h a.c (x0 + x) (y0 + y) (by omega) (by omega)
  · show X.PixG (a.c ((x0 : Int) + (x : Int)) ((y0 : Int) + (y : Int)))
    rw [← Int.natCast_add, ← Int.natCast_add]
    have h1 : x < cw := hx'
    have h2 : y < ch := hy'
    exact g3 _ _ (by omega) (by omega)
theorem eaOk_ok : laws_eaOk.f = some true := by
  unfold laws_eaOk.f
  rw [implPixOk_ok]
  simp [PixP]
theorem does_of {a b : Pic} {o : S27} (d : Int → Int → S38) (hp : X.OpP o.f0 o.f1 o.f2 o.f3 o.f4) (e : opGo a.w a.h a.l o.f0 o.f1 o.f2 o.f3 o.f4 = ((b.w : Int), (b.h : Int), grid b.w b.h d, true))
    (hd : ∀ x y : Nat, x < b.w → y < b.h → d (x : Int) (y : Int) = b.c (x : Int) (y : Int)) (hok : Ok b) : Does a o b := ⟨hp, by rw [e]; unfold Pic.l; rw [grid_ext hd], hok⟩
theorem plain (K : Int) (h : 2 ≤ K ∧ K ≤ 6) : X.OpP K 0 0 0 0 := Or.inr (Or.inl ⟨h.1, h.2, rfl, rfl, rfl, rfl⟩)
theorem does_mirror {a : Pic} (g : Ok a) : Does a ⟨2, 0, 0, 0, 0⟩ ⟨a.w, a.h, fun x y => a.c ((a.w : Int) - 1 - x) y⟩ := by
  have hh (x : Nat) (hx : x < a.w) : (a.w : Int) - 1 - (x : Int) = ((a.w - 1 - x : Nat) : Int) := by omega
  refine does_of _ (plain 2 (by omega)) (by unfold opGo; rw [if_neg (by decide), if_pos rfl]) (fun x y hx hy => ?_) ⟨g.1, g.2.1, fun x y hx hy => ?_⟩
  · show pix a.w a.l ((a.w : Int) - 1 - (x : Int)) (y : Int) = a.c ((a.w : Int) - 1 - (x : Int)) (y : Int)
    rw [hh x hx]
    exact pix_grid a.w a.h a.c _ y (by have : x < a.w := hx; omega) hy
  · show X.PixG (a.c ((a.w : Int) - 1 - (x : Int)) (y : Int))
    rw [hh x hx]
    exact g.2.2 _ y (by have : x < a.w := hx; omega) hy
theorem does_over {a : Pic} (g : Ok a) : Does a ⟨3, 0, 0, 0, 0⟩ ⟨a.w, a.h, fun x y => a.c x ((a.h : Int) - 1 - y)⟩ := by
  have hh (x : Nat) (hx : x < a.h) : (a.h : Int) - 1 - (x : Int) = ((a.h - 1 - x : Nat) : Int) := by omega
  refine does_of _ (plain 3 (by omega)) (by unfold opGo; rw [if_neg (by decide), if_neg (by decide), if_pos rfl]) (fun x y hx hy => ?_) ⟨g.1, g.2.1, fun x y hx hy => ?_⟩
  · show pix a.w a.l (x : Int) ((a.h : Int) - 1 - (y : Int)) = a.c (x : Int) ((a.h : Int) - 1 - (y : Int))
    rw [hh y hy]
    exact pix_grid a.w a.h a.c x _ hx (by have : y < a.h := hy; omega)
  · show X.PixG (a.c (x : Int) ((a.h : Int) - 1 - (y : Int)))
    rw [hh y hy]
    exact g.2.2 x _ hx (by have : y < a.h := hy; omega)
theorem does_turn {a : Pic} (g : Ok a) : Does a ⟨4, 0, 0, 0, 0⟩ ⟨a.h, a.w, fun x y => a.c y ((a.h : Int) - 1 - x)⟩ := by
  have hh (x : Nat) (hx : x < a.h) : (a.h : Int) - 1 - (x : Int) = ((a.h - 1 - x : Nat) : Int) := by omega
  refine does_of _ (plain 4 (by omega)) (by unfold opGo; rw [if_neg (by decide), if_neg (by decide), if_neg (by decide), if_pos rfl]) (fun x y hx hy => ?_) ⟨g.2.1, g.1, fun x y hx hy => ?_⟩
  · show pix a.w a.l (y : Int) ((a.h : Int) - 1 - (x : Int)) = a.c (y : Int) ((a.h : Int) - 1 - (x : Int))
    rw [hh x hx]
    exact pix_grid a.w a.h a.c y _ hy (by have : x < a.h := hx; omega)
  · show X.PixG (a.c (y : Int) ((a.h : Int) - 1 - (x : Int)))
    rw [hh x hx]
    exact g.2.2 y _ hy (by have : x < a.h := hx; omega)
theorem gray_ok {p : S38} (h : X.PixG p) : X.PixG (grayS p) := by
  obtain ⟨h1, h2, h3, h4⟩ := h
  unfold X.PartG at h1 h2 h3
  refine ⟨?_, ?_, ?_, h4⟩ <;> (unfold X.PartG grayS; dsimp only; omega)
theorem does_gray {a : Pic} (g : Ok a) : Does a ⟨5, 0, 0, 0, 0⟩ ⟨a.w, a.h, fun x y => grayS (a.c x y)⟩ := by
  refine does_of _ (plain 5 (by omega)) (by unfold opGo; rw [if_neg (by decide), if_neg (by decide), if_neg (by decide), if_neg (by decide), if_pos rfl]) (fun x y hx hy => ?_) ⟨g.1, g.2.1, fun x y hx hy => gray_ok (g.2.2 x y hx hy)⟩
  show grayS (pix a.w a.l (x : Int) (y : Int)) = grayS (a.c (x : Int) (y : Int))
  exact congrArg grayS (pix_grid a.w a.h a.c x y hx hy)
theorem over_ok {f a b : Int} (ha : X.PartG a) (hf : X.PartG f) (hb : X.PartG b) : X.PartG (overS a f b) := by
  unfold X.PartG at *
  unfold overS
  have h1 : f * a ≤ 255 * a := Int.mul_le_mul_of_nonneg_right hf.2 ha.1
  have h2 : b * (255 - a) ≤ 255 * (255 - a) := Int.mul_le_mul_of_nonneg_right hb.2 (by omega)
  have h3 : 0 ≤ f * a := Int.mul_nonneg hf.1 ha.1
  have h4 : 0 ≤ b * (255 - a) := Int.mul_nonneg hb.1 (by omega)
  generalize f * a = u at *
  generalize b * (255 - a) = v at *
  omega
theorem flat_ok {A B C : Int} (hA : X.PartG A) (hB : X.PartG B) (hC : X.PartG C) {p : S38} (h : X.PixG p) : X.PixG (flatS A B C p) :=
  ⟨over_ok h.2.2.2 h.1 hA, over_ok h.2.2.2 h.2.1 hB, over_ok h.2.2.2 h.2.2.1 hC, ⟨by show (0 : Int) ≤ 255; omega, by show (255 : Int) ≤ 255; omega⟩⟩
theorem does_flat {a : Pic} (g : Ok a) (A B C : Int) (hA : X.PartG A) (hB : X.PartG B) (hC : X.PartG C) : Does a ⟨8, A, B, C, 0⟩ ⟨a.w, a.h, fun x y => flatS A B C (a.c x y)⟩ := by
  refine does_of _ (Or.inr (Or.inr (Or.inr ⟨rfl, hA.1, hA.2, hB.1, hB.2, hC.1, hC.2, rfl⟩))) (by unfold opGo; dsimp only; rw [if_neg (by decide), if_neg (by decide), if_neg (by decide), if_neg (by decide), if_neg (by decide), if_neg (by decide), if_neg (by decide)]) (fun x y hx hy => ?_) ⟨g.1, g.2.1, fun x y hx hy => flat_ok hA hB hC (g.2.2 x y hx hy)⟩
  show flatS A B C (pix a.w a.l (x : Int) (y : Int)) = flatS A B C (a.c (x : Int) (y : Int))
  exact congrArg (flatS A B C) (pix_grid a.w a.h a.c x y hx hy)
/-- Where a place of the new width stands in the old. -/
def szN (x p w : Nat) : Nat := (2 * x + 1) * w / (2 * p)
theorem sz_cast (x p w : Nat) : (2 * (x : Int) + 1) * (w : Int) / (2 * (p : Int)) = ((szN x p w : Nat) : Int) := by unfold szN; push_cast; rfl
theorem sz_lt {x p w : Nat} (hx : x < p) (hw : 0 < w) : szN x p w < w := by
  unfold szN
  refine Nat.div_lt_of_lt_mul ?_
  exact Nat.mul_lt_mul_of_pos_right (by omega) hw
theorem sz_self {x w : Nat} (hx : x < w) : szN x w w = x := by
  unfold szN
  rw [show (2 * x + 1) * w = w + (2 * w) * x by rw [Nat.add_mul, Nat.one_mul, Nat.mul_right_comm]; omega, Nat.add_mul_div_left _ _ (by omega), Nat.div_eq_of_lt (by omega), Nat.zero_add]
theorem does_size {a : Pic} (g : Ok a) (p q : Nat) (hp : 1 ≤ p) (hp' : p ≤ 6) (hq : 1 ≤ q) (hq' : q ≤ 6) :
    Does a ⟨7, (p : Int), (q : Int), 0, 0⟩ ⟨p, q, fun x y => a.c ((2 * x + 1) * (a.w : Int) / (2 * (p : Int))) ((2 * y + 1) * (a.h : Int) / (2 * (q : Int)))⟩ := by
  have gw := g.1.1
  have gh := g.2.1.1
  refine does_of (fun x y => pix a.w a.l ((2 * x + 1) * (a.w : Int) / (2 * (p : Int))) ((2 * y + 1) * (a.h : Int) / (2 * (q : Int)))) (Or.inr (Or.inr (Or.inl ⟨rfl, by show (1 : Int) ≤ (p : Int); omega, by show (p : Int) ≤ 6; omega, by show (1 : Int) ≤ (q : Int); omega, by show (q : Int) ≤ 6; omega, rfl, rfl⟩))) ?_ (fun x y hx hy => ?_) ⟨⟨hp, hp'⟩, ⟨hq, hq'⟩, fun x y hx hy => ?_⟩
  · unfold opGo
    dsimp only
    rw [if_neg (by decide), if_neg (by decide), if_neg (by decide), if_neg (by decide), if_neg (by decide), if_neg (by decide), if_pos rfl]
    show (((p : Int)), ((q : Int)), grid (p : Int).toNat (q : Int).toNat _, true) = _
    rw [Int.toNat_natCast, Int.toNat_natCast]
  · show pix a.w a.l ((2 * (x : Int) + 1) * (a.w : Int) / (2 * (p : Int))) ((2 * (y : Int) + 1) * (a.h : Int) / (2 * (q : Int))) = a.c ((2 * (x : Int) + 1) * (a.w : Int) / (2 * (p : Int))) ((2 * (y : Int) + 1) * (a.h : Int) / (2 * (q : Int)))
    rw [sz_cast, sz_cast]
    exact pix_grid a.w a.h a.c _ _ (sz_lt hx (by omega)) (sz_lt hy (by omega))
  · show X.PixG (a.c ((2 * (x : Int) + 1) * (a.w : Int) / (2 * (p : Int))) ((2 * (y : Int) + 1) * (a.h : Int) / (2 * (q : Int))))
    rw [sz_cast, sz_cast]
    exact g.2.2 _ _ (sz_lt hx (by omega)) (sz_lt hy (by omega))
theorem c_eq {α : Type} (c : Int → Int → α) {x x' y y' : Int} (hx : x = x') (hy : y = y') : c x y = c x' y' := by rw [hx, hy]
/-- The picture without its spelling. -/
theorem ex_of {a b : Pic} {o : S27} (h : Does a o b) : ∃ b' : Pic, Does a o b' ∧ b'.w = b.w ∧ b'.h = b.h ∧ ∀ x y : Int, b'.c x y = b.c x y := ⟨b, h, rfl, rfl, fun _ _ => rfl⟩
theorem sumS_congr {f g : Nat → Int} : ∀ n : Nat, (∀ i, i < n → f i = g i) → X.sumS f n = X.sumS g n
  | 0, _ => rfl
  | n + 1, h => by
    simp only [X.sumS]
    rw [sumS_congr n fun i hi => h i (by omega), h n (by omega)]
theorem totS_congr {F G : Nat → Nat → Int} {x0 y0 x1 y1 nx m : Nat} (h : ∀ c r, c < nx → r < m → F (x0 + c) (y0 + r) = G (x1 + c) (y1 + r)) : X.totS F x0 y0 nx m = X.totS G x1 y1 nx m := by
  unfold X.totS
  exact sumS_congr m fun r hr => sumS_congr nx fun c hc => h c r hc hr
theorem sumS_between {f : Nat → Int} {lo hi : Int} : ∀ n : Nat, (∀ i, i < n → lo ≤ f i ∧ f i ≤ hi) → lo * (n : Int) ≤ X.sumS f n ∧ X.sumS f n ≤ hi * (n : Int)
  | 0, _ => ⟨by simp [X.sumS], by simp [X.sumS]⟩
  | n + 1, h => by
    have h1 := sumS_between n fun i hi' => h i (by omega)
    have h2 := h n (by omega)
    simp only [X.sumS]
    rw [Int.natCast_add, Int.mul_add, Int.mul_add, show ((1 : Nat) : Int) = 1 from rfl, Int.mul_one, Int.mul_one]
    generalize lo * (n : Int) = u at *
    generalize hi * (n : Int) = v at *
    omega
theorem totS_between {F : Nat → Nat → Int} {lo hi : Int} {x0 y0 nx m : Nat} (h : ∀ c r, c < nx → r < m → lo ≤ F (x0 + c) (y0 + r) ∧ F (x0 + c) (y0 + r) ≤ hi) :
    lo * (nx : Int) * (m : Int) ≤ X.totS F x0 y0 nx m ∧ X.totS F x0 y0 nx m ≤ hi * (nx : Int) * (m : Int) := by
  unfold X.totS
  exact sumS_between m fun r hr => sumS_between nx fun c hc => h c r hc hr
theorem about_pos {x W : Nat} (h : x < W) : 1 ≤ X.aboutN x W := by unfold X.aboutN; omega
theorem about_in {x W c : Nat} (h : x < W) (hc : c < X.aboutN x W) : x - 1 + c < W ∧ x - 1 + c ≤ x + 1 := by unfold X.aboutN at hc; omega
/-- The mean of one part of the colours about a place. -/
def meanS (p : S38 → Int) (a : Pic) (x y : Nat) : Int := X.totS (fun i j => p (a.c (i : Int) (j : Int))) (x - 1) (y - 1) (X.aboutN x a.w) (X.aboutN y a.h) / ((X.aboutN y a.h * X.aboutN x a.w : Nat) : Int)
def blurC (a : Pic) (x y : Int) : S38 := ⟨meanS S38.f0 a x.toNat y.toNat, meanS S38.f1 a x.toNat y.toNat, meanS S38.f2 a x.toNat y.toNat, meanS S38.f3 a x.toNat y.toNat⟩
theorem mean_between {p : S38 → Int} {a : Pic} {x y : Nat} (hx : x < a.w) (hy : y < a.h) {lo hi : Int} (h : ∀ i j : Nat, i < a.w → j < a.h → x - 1 ≤ i → i ≤ x + 1 → y - 1 ≤ j → j ≤ y + 1 → lo ≤ p (a.c (i : Int) (j : Int)) ∧ p (a.c (i : Int) (j : Int)) ≤ hi) :
    lo ≤ meanS p a x y ∧ meanS p a x y ≤ hi := by
  have h1 := totS_between (F := fun i j => p (a.c (i : Int) (j : Int))) (lo := lo) (hi := hi) (x0 := x - 1) (y0 := y - 1) (nx := X.aboutN x a.w) (m := X.aboutN y a.h) fun _ _ hc hr => h _ _ (about_in hx hc).1 (about_in hy hr).1 (Nat.le_add_right _ _) (about_in hx hc).2 (Nat.le_add_right _ _) (about_in hy hr).2
  have hp : 0 < X.aboutN y a.h * X.aboutN x a.w := Nat.mul_pos (about_pos hy) (about_pos hx)
  rw [Int.mul_assoc, Int.mul_assoc, Int.mul_comm (X.aboutN x a.w : Int), ← Int.natCast_mul] at h1
  unfold meanS
  generalize X.aboutN y a.h * X.aboutN x a.w = n at *
  have hn : (0 : Int) < (n : Int) := by omega
  refine ⟨Int.le_ediv_of_mul_le hn h1.1, ?_⟩
  have h2 : X.totS (fun i j => p (a.c (i : Int) (j : Int))) (x - 1) (y - 1) (X.aboutN x a.w) (X.aboutN y a.h) / (n : Int) < hi + 1 := Int.ediv_lt_of_lt_mul hn (by rw [Int.add_mul, Int.one_mul]; exact Int.lt_of_le_of_lt h1.2 (Int.lt_add_of_pos_right _ hn))
  exact Int.le_of_lt_add_one h2
theorem blur_pixG {a : Pic} (g : Ok a) {x y : Nat} (hx : x < a.w) (hy : y < a.h) : X.PixG (blurC a (x : Int) (y : Int)) := by
  unfold blurC
  rw [Int.toNat_natCast, Int.toNat_natCast]
  exact ⟨mean_between hx hy fun i j hi hj _ _ _ _ => (g.2.2 i j hi hj).1, mean_between hx hy fun i j hi hj _ _ _ _ => (g.2.2 i j hi hj).2.1, mean_between hx hy fun i j hi hj _ _ _ _ => (g.2.2 i j hi hj).2.2.1, mean_between hx hy fun i j hi hj _ _ _ _ => (g.2.2 i j hi hj).2.2.2⟩
theorem field_tot (p : S38 → Int) (a : Pic) {x y : Nat} (hx : x < a.w) (hy : y < a.h) : X.totS (X.fieldS a.w a.l p) (x - 1) (y - 1) (X.aboutN x a.w) (X.aboutN y a.h) = X.totS (fun i j => p (a.c (i : Int) (j : Int))) (x - 1) (y - 1) (X.aboutN x a.w) (X.aboutN y a.h) :=
  totS_congr fun _ _ hc hr => congrArg p (pix_grid a.w a.h a.c _ _ (about_in hx hc).1 (about_in hy hr).1)
theorem blurS_c (a : Pic) {x y : Nat} (hx : x < a.w) (hy : y < a.h) : X.blurS a.w a.h a.l (x : Int) (y : Int) = blurC a (x : Int) (y : Int) := by
  unfold X.blurS blurC meanS
  rw [Int.toNat_natCast, Int.toNat_natCast, field_tot S38.f0 a hx hy, field_tot S38.f1 a hx hy, field_tot S38.f2 a hx hy, field_tot S38.f3 a hx hy]
theorem does_blur {a : Pic} (g : Ok a) : Does a ⟨6, 0, 0, 0, 0⟩ ⟨a.w, a.h, blurC a⟩ := by
  refine does_of (X.blurS a.w a.h a.l) (plain 6 (by omega)) (by unfold X.opGo; rw [if_neg (by decide), if_neg (by decide), if_neg (by decide), if_neg (by decide), if_neg (by decide), if_pos rfl]) (fun x y hx hy => blurS_c a hx hy) ⟨g.1, g.2.1, fun x y hx hy => blur_pixG g hx hy⟩
/-- Two means are one where the same colours lie about. -/
theorem mean_eq {p : S38 → Int} {a b : Pic} {x y u v : Nat} (hw : X.aboutN x a.w = X.aboutN u b.w) (hh : X.aboutN y a.h = X.aboutN v b.h) (hc : ∀ c r, c < X.aboutN x a.w → r < X.aboutN y a.h → a.c ((x - 1 + c : Nat) : Int) ((y - 1 + r : Nat) : Int) = b.c ((u - 1 + c : Nat) : Int) ((v - 1 + r : Nat) : Int)) :
    meanS p a x y = meanS p b u v := by
  have h := totS_congr (F := fun i j => p (a.c (i : Int) (j : Int))) (G := fun i j => p (b.c (i : Int) (j : Int))) (x0 := x - 1) (y0 := y - 1) (x1 := u - 1) (y1 := v - 1) (nx := X.aboutN x a.w) (m := X.aboutN y a.h) fun c r h1 h2 => congrArg p (hc c r h1 h2)
  unfold meanS
  rw [h, hw, hh]
theorem blurC_eq {a b : Pic} {x y u v : Nat} (hw : X.aboutN x a.w = X.aboutN u b.w) (hh : X.aboutN y a.h = X.aboutN v b.h) (hc : ∀ c r, c < X.aboutN x a.w → r < X.aboutN y a.h → a.c ((x - 1 + c : Nat) : Int) ((y - 1 + r : Nat) : Int) = b.c ((u - 1 + c : Nat) : Int) ((v - 1 + r : Nat) : Int)) :
    blurC a (x : Int) (y : Int) = blurC b (u : Int) (v : Int) := by
  unfold blurC
  simp only [Int.toNat_natCast]
  rw [mean_eq (p := S38.f0) hw hh hc, mean_eq (p := S38.f1) hw hh hc, mean_eq (p := S38.f2) hw hh hc, mean_eq (p := S38.f3) hw hh hc]
/-- The first places of a picture, row by row. -/
def cells (w : Nat) (c : Int → Int → S38) (n : Nat) : List S38 := (List.range n).map fun j => c ((j % w : Nat) : Int) ((j / w : Nat) : Int)
theorem cells_all (w h : Nat) (c : Int → Int → S38) : cells w c (w * h) = grid w h c := rfl
theorem cells_len (w : Nat) (c : Int → Int → S38) (n : Nat) : (cells w c n).length = n := by simp [cells]
theorem cells_step {w x y : Nat} (c : Int → Int → S38) (hx : x < w) (v : S38) (hv : v = c (x : Int) (y : Int)) : cells w c (y * w + x) ++ [v] = cells w c (y * w + x + 1) := by
  have h1 : (y * w + x) % w = x := by rw [Nat.add_comm, Nat.add_mul_mod_self_right, Nat.mod_eq_of_lt hx]
  have h2 : (y * w + x) / w = y := by rw [Nat.add_comm, Nat.add_mul_div_right _ _ (by omega), Nat.div_eq_of_lt hx, Nat.zero_add]
  unfold cells
  rw [List.range_succ, List.map_append, List.map_singleton, h1, h2, hv]
theorem place {a : Pic} (g : Ok a) {X Y : Nat} (hX : X < a.w) (hY : Y < a.h) : rd_T38 a.l ((Y * a.w + X : Nat) : Int) = a.c (X : Int) (Y : Int) ∧ Y * a.w + X < a.l.length ∧ Y * a.w ≤ 30 := by
  have hl := ok_len g
  have gh := g.2.1
  have e := rd_grid a.w a.h a.c X Y hX hY
  have h1 : Y * a.w + a.w ≤ a.h * a.w := by
    have := Nat.mul_le_mul_right a.w (show Y + 1 ≤ a.h from hY)
    rw [Nat.succ_mul] at this
    exact this
  rw [Nat.mul_comm a.h a.w] at h1
  have h3 : Y * a.w ≤ 5 * 6 := Nat.mul_le_mul (by omega) g.1.2
  rw [← Int.natCast_mul, ← Int.natCast_add] at e
  exact ⟨e, by omega, h3⟩
theorem rows_le {w y : Nat} (hw : w ≤ 6) (hy : y ≤ 6) : y * w ≤ 36 := Nat.mul_le_mul hy hw
theorem sCrop_row {a : Pic} (g : Ok a) (K : Int) (x0 y0 cw ch : Nat) (hx : x0 + cw ≤ a.w) (hy0 : y0 + ch ≤ a.h) (y : Nat) (hy : y < ch) : ∀ (d i k : Nat), i + d = cw →
    spec_l6Crop.l1 (k + d + 1) (y : Int) (i : Int) (a.w : Int) (a.h : Int) a.l K (x0 : Int) (y0 : Int) (cw : Int) (ch : Int) (cw : Int) (ch : Int) (cells cw (fun x y => a.c ((x0 : Int) + x) ((y0 : Int) + y)) (y * cw + i)) = spec_l6Crop.l0 k (wrap64 ((y : Int) + 1)) (a.w : Int) (a.h : Int) a.l K (x0 : Int) (y0 : Int) (cw : Int) (ch : Int) (cw : Int) (ch : Int) (cells cw (fun x y => a.c ((x0 : Int) + x) ((y0 : Int) + y)) ((y + 1) * cw)) := by
  have ga := g.1
  have ga2 := g.2.1
  have hb : y * cw ≤ 36 := rows_le (by omega) (by omega)
  intro d
  induction d with
  | zero =>
    intro i k hi
    rw [show y * cw + i = (y + 1) * cw by rw [Nat.succ_mul]; omega]
    simp only [spec_l6Crop.l1]
    rw [if_neg (by omega)]
  | succ d ih =>
    intro i k hi
    generalize hkq : k + (d + 1) = kq
    have t0 : i < cw := by omega
    have f1 : (i : Int) < (cw : Int) := by omega
    have t6 : i ≤ 6 := by omega
    have p5 : wrap64 ((i : Int) + 1) = ((i + 1 : Nat) : Int) := by rw [w64 (by omega) (by omega)]; omega
    have h5 := Aside0.mk p5
    clear p5
    have tx : x0 + i < a.w := by omega
    have ty : y0 + y < a.h := by omega
    have c1 : ((x0 + i : Nat) : Int) = (x0 : Int) + (i : Int) := by omega
    have c2 : ((y0 + y : Nat) : Int) = (y0 : Int) + (y : Int) := by omega
    have k1 := Aside0.mk c1
    have k2 := Aside0.mk c2
    clear c1 c2
    have hn := ih (i + 1) k (by omega)
    obtain ⟨e1, e2, e3⟩ := place g tx ty
    have f2 : (0 : Int) ≤ ((((y0 + y) * a.w + (x0 + i) : Nat)) : Int) := Int.natCast_nonneg _
    have f3 : ((((y0 + y) * a.w + (x0 + i) : Nat)) : Int) < (a.l.length : Int) := Int.ofNat_lt.2 e2
    have e : wrap64 ((wrap64 ((wrap64 ((wrap64 ((y0 : Int) + (y : Int))) * (a.w : Int))) + (x0 : Int))) + (i : Int)) = (((y0 + y) * a.w + (x0 + i) : Nat) : Int) := by
      rw [w64 (x := (y0 : Int) + (y : Int)) (by omega) (by omega), ← Int.natCast_add, ← Int.natCast_mul]
      generalize (y0 + y) * a.w = m at *
      rw [w64 (x := (m : Int)) (by omega) (by omega), w64 (x := (m : Int) + (x0 : Int)) (by omega) (by omega), w64 (by omega) (by omega)]
      omega
    have hv : (⟨(rd_T38 a.l (((y0 + y) * a.w + (x0 + i) : Nat) : Int)).f0, (rd_T38 a.l (((y0 + y) * a.w + (x0 + i) : Nat) : Int)).f1, (rd_T38 a.l (((y0 + y) * a.w + (x0 + i) : Nat) : Int)).f2, (rd_T38 a.l (((y0 + y) * a.w + (x0 + i) : Nat) : Int)).f3⟩ : S38) = (fun x y => a.c ((x0 : Int) + x) ((y0 : Int) + y)) (i : Int) (y : Int) := by
      rw [e1]
      exact c_eq a.c k1.out k2.out
    have f4 : (cells cw (fun x y => a.c ((x0 : Int) + x) ((y0 : Int) + y)) (y * cw + i)).length < 4398046511104 := by rw [cells_len]; exact Nat.lt_of_le_of_lt (Nat.add_le_add hb t6) (by decide)
    simp only [spec_l6Crop.l1]
    rw [if_pos f1, e, if_pos f2, if_pos f3, if_pos f4, cells_step _ t0 _ hv, h5.out, ← hkq]
    exact hn
theorem sCrop_all {a : Pic} (g : Ok a) (K : Int) (x0 y0 cw ch : Nat) (hx : x0 + cw ≤ a.w) (hy0 : y0 + ch ≤ a.h) : ∀ (d y k : Nat), y + d = ch → d * (cw + 2) < k →
    spec_l6Crop.l0 k (y : Int) (a.w : Int) (a.h : Int) a.l K (x0 : Int) (y0 : Int) (cw : Int) (ch : Int) (cw : Int) (ch : Int) (cells cw (fun x y => a.c ((x0 : Int) + x) ((y0 : Int) + y)) (y * cw)) = some ((cw : Int), (ch : Int), grid cw ch (fun x y => a.c ((x0 : Int) + x) ((y0 : Int) + y))) := by
  have ga := g.1
  have ga2 := g.2.1
  intro d
  induction d with
  | zero =>
    intro y k hi hk
    obtain ⟨k, rfl⟩ : ∃ m, k = m + 1 := ⟨k - 1, by omega⟩
    obtain rfl : y = ch := by omega
    simp only [spec_l6Crop.l0]
    rw [if_neg (by omega), Nat.mul_comm, cells_all]
  | succ d ih =>
    intro y k hi hk
    rw [Nat.succ_mul] at hk
    generalize hz : d * (cw + 2) = z at *
    obtain ⟨k, rfl⟩ : ∃ m, k = m + cw + 1 + 1 := ⟨k - cw - 2, by omega⟩
    have e : spec_l6Crop.l1 (k + cw + 1) (y : Int) 0 (a.w : Int) (a.h : Int) a.l K (x0 : Int) (y0 : Int) (cw : Int) (ch : Int) (cw : Int) (ch : Int) (cells cw (fun x y => a.c ((x0 : Int) + x) ((y0 : Int) + y)) (y * cw)) = spec_l6Crop.l0 k (wrap64 ((y : Int) + 1)) (a.w : Int) (a.h : Int) a.l K (x0 : Int) (y0 : Int) (cw : Int) (ch : Int) (cw : Int) (ch : Int) (cells cw (fun x y => a.c ((x0 : Int) + x) ((y0 : Int) + y)) ((y + 1) * cw)) := sCrop_row g K x0 y0 cw ch hx hy0 y (by omega) cw 0 k (by omega)
    simp only [spec_l6Crop.l0]
    rw [if_pos (by omega)]
    rw [e, w64 (by omega) (by omega)]
    exact ih (y + 1) k (by omega) (by omega)
theorem sFlip_row {a : Pic} (g : Ok a)  (y : Nat) (hy : y < a.h) : ∀ (d i k : Nat), i + d = a.w →
    spec_l6FlipX.l1 (k + d + 1) (y : Int) ((a.w : Int) - 1 - (i : Int)) (a.w : Int) (a.h : Int) a.l (a.w : Int) (a.h : Int) (cells a.w (fun x y => a.c ((a.w : Int) - 1 - x) y) (y * a.w + i)) = spec_l6FlipX.l0 k (wrap64 ((y : Int) + 1)) (a.w : Int) (a.h : Int) a.l (a.w : Int) (a.h : Int) (cells a.w (fun x y => a.c ((a.w : Int) - 1 - x) y) ((y + 1) * a.w)) := by
  have ga := g.1
  have ga2 := g.2.1
  have hb : y * a.w ≤ 36 := rows_le (by omega) (by omega)
  intro d
  induction d with
  | zero =>
    intro i k hi
    rw [show y * a.w + i = (y + 1) * a.w by rw [Nat.succ_mul]; omega]
    simp only [spec_l6FlipX.l1]
    rw [if_neg (by omega)]
  | succ d ih =>
    intro i k hi
    generalize hkq : k + (d + 1) = kq
    have t0 : i < a.w := by omega
    have f1 : (a.w : Int) - 1 - (i : Int) ≥ 0 := by omega
    have t6 : i ≤ 6 := by omega
    have p5 : wrap64 ((a.w : Int) - 1 - (i : Int) - 1) = (a.w : Int) - 1 - ((i + 1 : Nat) : Int) := by rw [w64 (by omega) (by omega)]; omega
    have h5 := Aside0.mk p5
    clear p5
    have tx : a.w - 1 - i < a.w := by omega
    have ty : y < a.h := by omega
    have c1 : ((a.w - 1 - i : Nat) : Int) = (a.w : Int) - 1 - (i : Int) := by omega
    have c2 : (y : Int) = (y : Int) := by omega
    have k1 := Aside0.mk c1
    have k2 := Aside0.mk c2
    clear c1 c2
    have hn := ih (i + 1) k (by omega)
    obtain ⟨e1, e2, e3⟩ := place g tx ty
    have f2 : (0 : Int) ≤ ((((y) * a.w + (a.w - 1 - i) : Nat)) : Int) := Int.natCast_nonneg _
    have f3 : ((((y) * a.w + (a.w - 1 - i) : Nat)) : Int) < (a.l.length : Int) := Int.ofNat_lt.2 e2
    have e : wrap64 ((wrap64 ((y : Int) * (a.w : Int))) + ((a.w : Int) - 1 - (i : Int))) = (((y) * a.w + (a.w - 1 - i) : Nat) : Int) := by
      rw [← Int.natCast_mul]
      generalize y * a.w = m at *
      rw [w64 (x := (m : Int)) (by omega) (by omega), w64 (by omega) (by omega)]
      omega
    have hv : (⟨(rd_T38 a.l (((y) * a.w + (a.w - 1 - i) : Nat) : Int)).f0, (rd_T38 a.l (((y) * a.w + (a.w - 1 - i) : Nat) : Int)).f1, (rd_T38 a.l (((y) * a.w + (a.w - 1 - i) : Nat) : Int)).f2, (rd_T38 a.l (((y) * a.w + (a.w - 1 - i) : Nat) : Int)).f3⟩ : S38) = (fun x y => a.c ((a.w : Int) - 1 - x) y) (i : Int) (y : Int) := by
      rw [e1]
      exact c_eq a.c k1.out k2.out
    have f4 : (cells a.w (fun x y => a.c ((a.w : Int) - 1 - x) y) (y * a.w + i)).length < 4398046511104 := by rw [cells_len]; exact Nat.lt_of_le_of_lt (Nat.add_le_add hb t6) (by decide)
    simp only [spec_l6FlipX.l1]
    rw [if_pos f1, e, if_pos f2, if_pos f3, if_pos f4, cells_step _ t0 _ hv, h5.out, ← hkq]
    exact hn
theorem sFlip_all {a : Pic} (g : Ok a)  : ∀ (d y k : Nat), y + d = a.h → d * (a.w + 2) < k →
    spec_l6FlipX.l0 k (y : Int) (a.w : Int) (a.h : Int) a.l (a.w : Int) (a.h : Int) (cells a.w (fun x y => a.c ((a.w : Int) - 1 - x) y) (y * a.w)) = some ((a.w : Int), (a.h : Int), grid a.w a.h (fun x y => a.c ((a.w : Int) - 1 - x) y)) := by
  have ga := g.1
  have ga2 := g.2.1
  intro d
  induction d with
  | zero =>
    intro y k hi hk
    obtain ⟨k, rfl⟩ : ∃ m, k = m + 1 := ⟨k - 1, by omega⟩
    obtain rfl : y = a.h := by omega
    simp only [spec_l6FlipX.l0]
    rw [if_neg (by omega), Nat.mul_comm, cells_all]
  | succ d ih =>
    intro y k hi hk
    rw [Nat.succ_mul] at hk
    generalize hz : d * (a.w + 2) = z at *
    obtain ⟨k, rfl⟩ : ∃ m, k = m + a.w + 1 + 1 := ⟨k - a.w - 2, by omega⟩
    have e : spec_l6FlipX.l1 (k + a.w + 1) (y : Int) (wrap64 ((a.w : Int) - 1)) (a.w : Int) (a.h : Int) a.l (a.w : Int) (a.h : Int) (cells a.w (fun x y => a.c ((a.w : Int) - 1 - x) y) (y * a.w)) = spec_l6FlipX.l0 k (wrap64 ((y : Int) + 1)) (a.w : Int) (a.h : Int) a.l (a.w : Int) (a.h : Int) (cells a.w (fun x y => a.c ((a.w : Int) - 1 - x) y) ((y + 1) * a.w)) := by
      have h := sFlip_row g y (by omega) a.w 0 k (by omega)
      rw [show (a.w : Int) - 1 - ((0 : Nat) : Int) = (a.w : Int) - 1 by omega] at h
      rw [w64 (x := (a.w : Int) - 1) (by omega) (by omega)]
      exact h
    simp only [spec_l6FlipX.l0]
    rw [if_pos (by omega)]
    rw [e, w64 (by omega) (by omega)]
    exact ih (y + 1) k (by omega) (by omega)
theorem sTurn_row {a : Pic} (g : Ok a)  (y : Nat) (hy : y < a.w) : ∀ (d i k : Nat), i + d = a.h →
    spec_l6Turn.l1 (k + d + 1) (y : Int) (i : Int) (a.w : Int) (a.h : Int) a.l (a.h : Int) (a.w : Int) (cells a.h (fun x y => a.c y ((a.h : Int) - 1 - x)) (y * a.h + i)) = spec_l6Turn.l0 k (wrap64 ((y : Int) + 1)) (a.w : Int) (a.h : Int) a.l (a.h : Int) (a.w : Int) (cells a.h (fun x y => a.c y ((a.h : Int) - 1 - x)) ((y + 1) * a.h)) := by
  have ga := g.1
  have ga2 := g.2.1
  have hb : y * a.h ≤ 36 := rows_le (by omega) (by omega)
  intro d
  induction d with
  | zero =>
    intro i k hi
    rw [show y * a.h + i = (y + 1) * a.h by rw [Nat.succ_mul]; omega]
    simp only [spec_l6Turn.l1]
    rw [if_neg (by omega)]
  | succ d ih =>
    intro i k hi
    generalize hkq : k + (d + 1) = kq
    have t0 : i < a.h := by omega
    have f1 : (i : Int) < (a.h : Int) := by omega
    have t6 : i ≤ 6 := by omega
    have p5 : wrap64 ((i : Int) + 1) = ((i + 1 : Nat) : Int) := by rw [w64 (by omega) (by omega)]; omega
    have h5 := Aside0.mk p5
    clear p5
    have tx : y < a.w := by omega
    have ty : a.h - 1 - i < a.h := by omega
    have c1 : (y : Int) = (y : Int) := by omega
    have c2 : ((a.h - 1 - i : Nat) : Int) = (a.h : Int) - 1 - (i : Int) := by omega
    have k1 := Aside0.mk c1
    have k2 := Aside0.mk c2
    clear c1 c2
    have hn := ih (i + 1) k (by omega)
    obtain ⟨e1, e2, e3⟩ := place g tx ty
    have f2 : (0 : Int) ≤ ((((a.h - 1 - i) * a.w + (y) : Nat)) : Int) := Int.natCast_nonneg _
    have f3 : ((((a.h - 1 - i) * a.w + (y) : Nat)) : Int) < (a.l.length : Int) := Int.ofNat_lt.2 e2
    have e : wrap64 ((wrap64 ((wrap64 ((wrap64 ((a.h : Int) - 1)) - (i : Int))) * (a.w : Int))) + (y : Int)) = (((a.h - 1 - i) * a.w + (y) : Nat) : Int) := by
      rw [w64 (x := (a.h : Int) - 1) (by omega) (by omega), w64 (x := (a.h : Int) - 1 - (i : Int)) (by omega) (by omega), show (a.h : Int) - 1 - (i : Int) = ((a.h - 1 - i : Nat) : Int) by omega, ← Int.natCast_mul]
      generalize (a.h - 1 - i) * a.w = m at *
      rw [w64 (x := (m : Int)) (by omega) (by omega), w64 (by omega) (by omega)]
      omega
    have hv : (⟨(rd_T38 a.l (((a.h - 1 - i) * a.w + (y) : Nat) : Int)).f0, (rd_T38 a.l (((a.h - 1 - i) * a.w + (y) : Nat) : Int)).f1, (rd_T38 a.l (((a.h - 1 - i) * a.w + (y) : Nat) : Int)).f2, (rd_T38 a.l (((a.h - 1 - i) * a.w + (y) : Nat) : Int)).f3⟩ : S38) = (fun x y => a.c y ((a.h : Int) - 1 - x)) (i : Int) (y : Int) := by
      rw [e1]
      exact c_eq a.c k1.out k2.out
    have f4 : (cells a.h (fun x y => a.c y ((a.h : Int) - 1 - x)) (y * a.h + i)).length < 4398046511104 := by rw [cells_len]; exact Nat.lt_of_le_of_lt (Nat.add_le_add hb t6) (by decide)
    simp only [spec_l6Turn.l1]
    rw [if_pos f1, e, if_pos f2, if_pos f3, if_pos f4, cells_step _ t0 _ hv, h5.out, ← hkq]
    exact hn
theorem sTurn_all {a : Pic} (g : Ok a)  : ∀ (d y k : Nat), y + d = a.w → d * (a.h + 2) < k →
    spec_l6Turn.l0 k (y : Int) (a.w : Int) (a.h : Int) a.l (a.h : Int) (a.w : Int) (cells a.h (fun x y => a.c y ((a.h : Int) - 1 - x)) (y * a.h)) = some ((a.h : Int), (a.w : Int), grid a.h a.w (fun x y => a.c y ((a.h : Int) - 1 - x))) := by
  have ga := g.1
  have ga2 := g.2.1
  intro d
  induction d with
  | zero =>
    intro y k hi hk
    obtain ⟨k, rfl⟩ : ∃ m, k = m + 1 := ⟨k - 1, by omega⟩
    obtain rfl : y = a.w := by omega
    simp only [spec_l6Turn.l0]
    rw [if_neg (by omega), Nat.mul_comm, cells_all]
  | succ d ih =>
    intro y k hi hk
    rw [Nat.succ_mul] at hk
    generalize hz : d * (a.h + 2) = z at *
    obtain ⟨k, rfl⟩ : ∃ m, k = m + a.h + 1 + 1 := ⟨k - a.h - 2, by omega⟩
    have e : spec_l6Turn.l1 (k + a.h + 1) (y : Int) 0 (a.w : Int) (a.h : Int) a.l (a.h : Int) (a.w : Int) (cells a.h (fun x y => a.c y ((a.h : Int) - 1 - x)) (y * a.h)) = spec_l6Turn.l0 k (wrap64 ((y : Int) + 1)) (a.w : Int) (a.h : Int) a.l (a.h : Int) (a.w : Int) (cells a.h (fun x y => a.c y ((a.h : Int) - 1 - x)) ((y + 1) * a.h)) := sTurn_row g y (by omega) a.h 0 k (by omega)
    simp only [spec_l6Turn.l0]
    rw [if_pos (by omega)]
    rw [e, w64 (by omega) (by omega)]
    exact ih (y + 1) k (by omega) (by omega)
theorem szw {x p w : Nat} (hx : x ≤ 5) (hw : w ≤ 6) (hp : 1 ≤ p) (hp6 : p ≤ 6) : wrap64 (Int.tdiv (wrap64 ((wrap64 ((wrap64 (2 * (x : Int))) + 1)) * (w : Int))) (wrap64 (2 * (p : Int)))) = ((szN x p w : Nat) : Int) := by
  have h1 : (2 * x + 1) * w ≤ 11 * 6 := Nat.mul_le_mul (by omega) hw
  have h2 : (2 * x + 1) * w / (2 * p) ≤ (2 * x + 1) * w := Nat.div_le_self _ _
  rw [w64 (x := 2 * (x : Int)) (by omega) (by omega), w64 (x := 2 * (x : Int) + 1) (by omega) (by omega), w64 (x := 2 * (p : Int)) (by omega) (by omega), show (2 * (x : Int) + 1) = ((2 * x + 1 : Nat) : Int) by omega, ← Int.natCast_mul, show 2 * (p : Int) = ((2 * p : Nat) : Int) by omega]
  unfold szN
  generalize (2 * x + 1) * w = m at *
  rw [w64 (x := (m : Int)) (by omega) (by omega), Int.tdiv_eq_ediv_of_nonneg (by omega), ← Int.natCast_ediv]
  generalize m / (2 * p) = r at *
  rw [w64 (by omega) (by omega)]
theorem two_ne {p : Nat} (hp : 1 ≤ p) (hp6 : p ≤ 6) : ¬ wrap64 (2 * (p : Int)) = 0 := by rw [w64 (by omega) (by omega)]; omega
theorem sSize_row {a : Pic} (g : Ok a) (K : Int) (p q : Nat) (hp : 1 ≤ p) (hp6 : p ≤ 6) (hq : 1 ≤ q) (hq6 : q ≤ 6) (C D : Int) (y : Nat) (hy : y < q) : ∀ (d i k : Nat), i + d = p →
    spec_l6Size.l1 (k + d + 1) (y : Int) (i : Int) (a.w : Int) (a.h : Int) a.l K (p : Int) (q : Int) C D (p : Int) (q : Int) (cells p (fun x y => a.c ((2 * x + 1) * (a.w : Int) / (2 * (p : Int))) ((2 * y + 1) * (a.h : Int) / (2 * (q : Int)))) (y * p + i)) = spec_l6Size.l0 k (wrap64 ((y : Int) + 1)) (a.w : Int) (a.h : Int) a.l K (p : Int) (q : Int) C D (p : Int) (q : Int) (cells p (fun x y => a.c ((2 * x + 1) * (a.w : Int) / (2 * (p : Int))) ((2 * y + 1) * (a.h : Int) / (2 * (q : Int)))) ((y + 1) * p)) := by
  have ga := g.1
  have ga2 := g.2.1
  have hb : y * p ≤ 36 := rows_le (by omega) (by omega)
  intro d
  induction d with
  | zero =>
    intro i k hi
    rw [show y * p + i = (y + 1) * p by rw [Nat.succ_mul]; omega]
    simp only [spec_l6Size.l1]
    rw [if_neg (by omega)]
  | succ d ih =>
    intro i k hi
    generalize hkq : k + (d + 1) = kq
    have t0 : i < p := by omega
    have f1 : (i : Int) < (p : Int) := by omega
    have t6 : i ≤ 6 := by omega
    have p5 : wrap64 ((i : Int) + 1) = ((i + 1 : Nat) : Int) := by rw [w64 (by omega) (by omega)]; omega
    have h5 := Aside0.mk p5
    clear p5
    have tx : szN i p a.w < a.w := sz_lt t0 (by omega)
    have ty : szN y q a.h < a.h := sz_lt hy (by omega)
    have c1 : ((szN i p a.w : Nat) : Int) = (2 * (i : Int) + 1) * (a.w : Int) / (2 * (p : Int)) := (sz_cast i p a.w).symm
    have c2 : ((szN y q a.h : Nat) : Int) = (2 * (y : Int) + 1) * (a.h : Int) / (2 * (q : Int)) := (sz_cast y q a.h).symm
    have k1 := Aside0.mk c1
    have k2 := Aside0.mk c2
    clear c1 c2
    have hn := ih (i + 1) k (by omega)
    obtain ⟨e1, e2, e3⟩ := place g tx ty
    have f2 : (0 : Int) ≤ ((((szN y q a.h) * a.w + (szN i p a.w) : Nat)) : Int) := Int.natCast_nonneg _
    have f3 : ((((szN y q a.h) * a.w + (szN i p a.w) : Nat)) : Int) < (a.l.length : Int) := Int.ofNat_lt.2 e2
    have e : wrap64 ((wrap64 ((wrap64 (Int.tdiv (wrap64 ((wrap64 ((wrap64 (2 * (y : Int))) + 1)) * (a.h : Int))) (wrap64 (2 * (q : Int))))) * (a.w : Int))) + (wrap64 (Int.tdiv (wrap64 ((wrap64 ((wrap64 (2 * (i : Int))) + 1)) * (a.w : Int))) (wrap64 (2 * (p : Int)))))) = (((szN y q a.h) * a.w + (szN i p a.w) : Nat) : Int) := by
      rw [szw (x := y) (by omega) ga2.2 hq hq6, szw (x := i) (by omega) ga.2 hp hp6, ← Int.natCast_mul]
      generalize szN y q a.h * a.w = m at *
      generalize szN i p a.w = n at *
      rw [w64 (x := (m : Int)) (by omega) (by omega), w64 (by omega) (by omega)]
      omega
    have hv : (⟨(rd_T38 a.l (((szN y q a.h) * a.w + (szN i p a.w) : Nat) : Int)).f0, (rd_T38 a.l (((szN y q a.h) * a.w + (szN i p a.w) : Nat) : Int)).f1, (rd_T38 a.l (((szN y q a.h) * a.w + (szN i p a.w) : Nat) : Int)).f2, (rd_T38 a.l (((szN y q a.h) * a.w + (szN i p a.w) : Nat) : Int)).f3⟩ : S38) = (fun x y => a.c ((2 * x + 1) * (a.w : Int) / (2 * (p : Int))) ((2 * y + 1) * (a.h : Int) / (2 * (q : Int)))) (i : Int) (y : Int) := by
      rw [e1]
      exact c_eq a.c k1.out k2.out
    have f4 : (cells p (fun x y => a.c ((2 * x + 1) * (a.w : Int) / (2 * (p : Int))) ((2 * y + 1) * (a.h : Int) / (2 * (q : Int)))) (y * p + i)).length < 4398046511104 := by rw [cells_len]; exact Nat.lt_of_le_of_lt (Nat.add_le_add hb t6) (by decide)
    simp only [spec_l6Size.l1]
    rw [if_pos f1, if_neg (two_ne hq hq6), if_neg (two_ne hp hp6), e, if_pos f2, if_pos f3, if_pos f4, cells_step _ t0 _ hv, h5.out, ← hkq]
    exact hn
theorem sSize_all {a : Pic} (g : Ok a) (K : Int) (p q : Nat) (hp : 1 ≤ p) (hp6 : p ≤ 6) (hq : 1 ≤ q) (hq6 : q ≤ 6) (C D : Int) : ∀ (d y k : Nat), y + d = q → d * (p + 2) < k →
    spec_l6Size.l0 k (y : Int) (a.w : Int) (a.h : Int) a.l K (p : Int) (q : Int) C D (p : Int) (q : Int) (cells p (fun x y => a.c ((2 * x + 1) * (a.w : Int) / (2 * (p : Int))) ((2 * y + 1) * (a.h : Int) / (2 * (q : Int)))) (y * p)) = some ((p : Int), (q : Int), grid p q (fun x y => a.c ((2 * x + 1) * (a.w : Int) / (2 * (p : Int))) ((2 * y + 1) * (a.h : Int) / (2 * (q : Int))))) := by
  have ga := g.1
  have ga2 := g.2.1
  intro d
  induction d with
  | zero =>
    intro y k hi hk
    obtain ⟨k, rfl⟩ : ∃ m, k = m + 1 := ⟨k - 1, by omega⟩
    obtain rfl : y = q := by omega
    simp only [spec_l6Size.l0]
    rw [if_neg (by omega), Nat.mul_comm, cells_all]
  | succ d ih =>
    intro y k hi hk
    rw [Nat.succ_mul] at hk
    generalize hz : d * (p + 2) = z at *
    obtain ⟨k, rfl⟩ : ∃ m, k = m + p + 1 + 1 := ⟨k - p - 2, by omega⟩
    have e : spec_l6Size.l1 (k + p + 1) (y : Int) 0 (a.w : Int) (a.h : Int) a.l K (p : Int) (q : Int) C D (p : Int) (q : Int) (cells p (fun x y => a.c ((2 * x + 1) * (a.w : Int) / (2 * (p : Int))) ((2 * y + 1) * (a.h : Int) / (2 * (q : Int)))) (y * p)) = spec_l6Size.l0 k (wrap64 ((y : Int) + 1)) (a.w : Int) (a.h : Int) a.l K (p : Int) (q : Int) C D (p : Int) (q : Int) (cells p (fun x y => a.c ((2 * x + 1) * (a.w : Int) / (2 * (p : Int))) ((2 * y + 1) * (a.h : Int) / (2 * (q : Int)))) ((y + 1) * p)) := sSize_row g K p q hp hp6 hq hq6 C D y (by omega) p 0 k (by omega)
    simp only [spec_l6Size.l0]
    rw [if_pos (by omega)]
    rw [e, w64 (by omega) (by omega)]
    exact ih (y + 1) k (by omega) (by omega)
theorem cells_some (w : Nat) (c : Int → Int → S38) (y : Nat) : ∀ i : Nat, i ≤ w → cells w c (y * w) ++ (List.range i).map (fun j : Nat => c (j : Int) (y : Int)) = cells w c (y * w + i)
  | 0, _ => by simp
  | i + 1, h => by
    rw [List.range_succ, List.map_append, ← List.append_assoc, cells_some w c y i (by omega), List.map_singleton, cells_step c (by omega) _ rfl]
    rfl
theorem row_cells {a : Pic} (g : Ok a) {Y : Nat} (hY : Y < a.h) : (a.l.take ((Y + 1) * a.w)).drop (Y * a.w) = (List.range a.w).map fun j : Nat => a.c (j : Int) (Y : Int) := by
  have hl := (ok_len g).1
  have h1 : (Y + 1) * a.w ≤ a.h * a.w := Nat.mul_le_mul_right a.w hY
  have h0 : (Y + 1) * a.w = Y * a.w + a.w := Nat.succ_mul _ _
  rw [Nat.mul_comm a.h a.w] at h1
  apply List.ext_getElem
  · rw [List.length_drop, List.length_take, List.length_map, List.length_range, hl, Nat.min_eq_left h1, h0]; omega
  · intro j h2 h3
    rw [List.length_map, List.length_range] at h3
    rw [List.getElem_drop, List.getElem_take, List.getElem_map, List.getElem_range]
    refine (grid_get a.w a.h a.c _ _).trans ?_
    have e1 : (Y * a.w + j) % a.w = j := by rw [Nat.add_comm, Nat.add_mul_mod_self_right, Nat.mod_eq_of_lt h3]
    have e2 : (Y * a.w + j) / a.w = Y := by rw [Nat.add_comm, Nat.add_mul_div_right _ _ (by omega), Nat.div_eq_of_lt h3, Nat.zero_add]
    rw [e1, e2]
theorem s5_all {a : Pic} (g : Ok a) : ∀ (d n k : Nat), n + d = a.h → d < k →
    spec_l5Flip.l0 k ((a.h : Int) - 1 - (n : Int)) (a.w : Int) (a.h : Int) a.l (a.w : Int) (a.h : Int) (cells a.w (fun x y => a.c x ((a.h : Int) - 1 - y)) (n * a.w)) = some ((a.w : Int), (a.h : Int), grid a.w a.h (fun x y => a.c x ((a.h : Int) - 1 - y))) := by
  have ga := g.1
  have ga2 := g.2.1
  intro d
  induction d with
  | zero =>
    intro n k hi hk
    obtain ⟨k, rfl⟩ : ∃ m, k = m + 1 := ⟨k - 1, by omega⟩
    obtain rfl : n = a.h := by omega
    simp only [spec_l5Flip.l0]
    rw [if_neg (by omega), Nat.mul_comm, cells_all]
  | succ d ih =>
    intro n k hi hk
    obtain ⟨k, rfl⟩ : ∃ m, k = m + 1 := ⟨k - 1, by omega⟩
    have hn := ih (n + 1) k (by omega) (by omega)
    obtain ⟨Y, hY⟩ : ∃ Y : Nat, (a.h : Int) - 1 - (n : Int) = (Y : Int) := ⟨a.h - 1 - n, by omega⟩
    have hY2 : Y < a.h := by omega
    have hY3 : (a.h : Int) - 1 - ((n + 1 : Nat) : Int) = (Y : Int) - 1 := by omega
    rw [hY3] at hn
    have m0 : (Y + 1) * a.w = Y * a.w + a.w := Nat.succ_mul _ _
    have m1 : (Y + 1) * a.w ≤ a.h * a.w := Nat.mul_le_mul_right a.w hY2
    have m2 : a.h * a.w ≤ 6 * 6 := Nat.mul_le_mul ga2.2 ga.2
    have m3 : n * a.w ≤ 6 * 6 := Nat.mul_le_mul (by omega) ga.2
    have f0 : (Y : Int) ≥ 0 := Int.natCast_nonneg _
    have w2 : wrap64 ((Y : Int) + 1) = ((Y + 1 : Nat) : Int) := by rw [w64 (by omega) (by omega)]; omega
    have H2 := Aside0.mk w2
    clear w2
    have w3 : wrap64 (((Y + 1) * a.w : Nat) : Int) = (((Y + 1) * a.w : Nat) : Int) := w64 (by omega) (by omega)
    have H3 := Aside0.mk w3
    clear w3
    have w1 : wrap64 ((Y * a.w : Nat) : Int) = ((Y * a.w : Nat) : Int) := w64 (by omega) (by omega)
    have H1 := Aside0.mk w1
    clear w1
    have w4 : wrap64 ((Y : Int) - 1) = (Y : Int) - 1 := w64 (by omega) (by omega)
    have H4 := Aside0.mk w4
    clear w4
    have f1 : (0 : Int) ≤ ((Y * a.w : Nat) : Int) := Int.natCast_nonneg _
    have f2 : ((Y * a.w : Nat) : Int) ≤ (((Y + 1) * a.w : Nat) : Int) := by omega
    have f3 : (((Y + 1) * a.w : Nat) : Int) ≤ (a.l.length : Int) := by rw [(ok_len g).1, Nat.mul_comm a.w a.h]; omega
    have hr : (a.l.take ((Y + 1) * a.w)).drop (Y * a.w) = (List.range a.w).map fun j : Nat => (fun x y => a.c x ((a.h : Int) - 1 - y)) (j : Int) (n : Int) := by
      rw [row_cells g hY2]
      dsimp only
      rw [hY]
    have f4 : (cells a.w (fun x y => a.c x ((a.h : Int) - 1 - y)) (n * a.w)).length + ((List.range a.w).map fun j : Nat => (fun x y => a.c x ((a.h : Int) - 1 - y)) (j : Int) (n : Int)).length < 4398046511104 := by
      rw [cells_len, List.length_map, List.length_range]
      exact Nat.lt_of_le_of_lt (Nat.add_le_add m3 ga.2) (by decide)
    simp only [spec_l5Flip.l0]
    rw [hY, if_pos f0, H2.out, ← Int.natCast_mul, ← Int.natCast_mul, H1.out, H3.out, if_pos f1, if_pos f2, if_pos f3, Option.bind_some, Int.toNat_natCast, Int.toNat_natCast, hr, if_pos f4, cells_some a.w _ n a.w (Nat.le_refl _), ← Nat.succ_mul, H4.out]
    exact hn
theorem about_three {x W : Nat} : X.aboutN x W ≤ 3 := by unfold X.aboutN; omega
theorem mn_end {x W : Nat} (hx : x < W) (hW : W ≤ 6) : mn (wrap64 ((W : Int) - 1)) (wrap64 ((x : Int) + 1)) = ((x - 1 + X.aboutN x W : Nat) : Int) - 1 := by
  rw [w64 (x := (W : Int) - 1) (by omega) (by omega), w64 (x := (x : Int) + 1) (by omega) (by omega)]
  unfold mn X.aboutN
  split <;> omega
theorem mx_start {x : Nat} (h : x ≤ 100) : mx 0 (wrap64 ((x : Int) - 1)) = ((x - 1 : Nat) : Int) := by
  rw [w64 (by omega) (by omega)]
  unfold mx
  split <;> omega
theorem sum_step {a : Pic} (p : S38 → Int) (hp : ∀ u v, 0 ≤ X.fieldS a.w a.l p u v ∧ X.fieldS a.w a.l p u v ≤ 255) {x0 y0 nx m i : Nat} (h1 : nx ≤ 3) (h2 : m ≤ 3) (h3 : i + 1 ≤ 3) :
    wrap64 (X.curS (X.fieldS a.w a.l p) x0 y0 nx m i + p (rd_T38 a.l (((y0 + m) * a.w + (x0 + i) : Nat) : Int))) = X.curS (X.fieldS a.w a.l p) x0 y0 nx m (i + 1) := by
  have e : p (rd_T38 a.l (((y0 + m) * a.w + (x0 + i) : Nat) : Int)) = X.fieldS a.w a.l p (x0 + i) (y0 + m) := by
    unfold X.fieldS X.pix
    rw [Int.natCast_add ((y0 + m) * a.w), Int.natCast_mul]
  have hb := X.curS_bd hp x0 y0 nx m (i + 1) h1 h2 h3
  rw [e, ← X.curS_succ]
  exact w64 (by omega) (by omega)
theorem step64 {n : Nat} (h : n ≤ 1000) : wrap64 ((n : Int) + 1) = ((n + 1 : Nat) : Int) := by rw [w64 (by omega) (by omega)]; omega
theorem sMean_row {a : Pic} (g : Ok a) {x y : Nat} (hx : x < a.w) (hy : y < a.h) (m : Nat) (hm : m < X.aboutN y a.h) : ∀ (d i k : Nat), i + d = X.aboutN x a.w →
    spec_l6Mean.l1 (k + d + 1) (x : Int) (y : Int) ((m * X.aboutN x a.w + i : Nat) : Int) ((y - 1 + m : Nat) : Int) ((x - 1 + i : Nat) : Int) (a.w : Int) (a.h : Int) a.l (X.curS (X.fieldS a.w a.l S38.f0) (x - 1) (y - 1) (X.aboutN x a.w) m i) (X.curS (X.fieldS a.w a.l S38.f1) (x - 1) (y - 1) (X.aboutN x a.w) m i) (X.curS (X.fieldS a.w a.l S38.f2) (x - 1) (y - 1) (X.aboutN x a.w) m i) (X.curS (X.fieldS a.w a.l S38.f3) (x - 1) (y - 1) (X.aboutN x a.w) m i) =
      spec_l6Mean.l0 k (x : Int) (y : Int) (((m + 1) * X.aboutN x a.w : Nat) : Int) (wrap64 (((y - 1 + m : Nat) : Int) + 1)) (a.w : Int) (a.h : Int) a.l (X.totS (X.fieldS a.w a.l S38.f0) (x - 1) (y - 1) (X.aboutN x a.w) (m + 1)) (X.totS (X.fieldS a.w a.l S38.f1) (x - 1) (y - 1) (X.aboutN x a.w) (m + 1)) (X.totS (X.fieldS a.w a.l S38.f2) (x - 1) (y - 1) (X.aboutN x a.w) (m + 1)) (X.totS (X.fieldS a.w a.l S38.f3) (x - 1) (y - 1) (X.aboutN x a.w) (m + 1)) := by
  have ga := g.1
  have ga2 := g.2.1
  have n3 : X.aboutN x a.w ≤ 3 := about_three
  have m3 : X.aboutN y a.h ≤ 3 := about_three
  have hb : m * X.aboutN x a.w ≤ 3 * 3 := Nat.mul_le_mul (by omega) n3
  obtain ⟨F0, F1, F2, F3⟩ := X.fieldS_bd (ok_fits g)
  intro d
  induction d with
  | zero =>
    intro i k hi
    obtain rfl : i = X.aboutN x a.w := by omega
    have f1 : ¬ ((x - 1 + X.aboutN x a.w : Nat) : Int) ≤ ((x - 1 + X.aboutN x a.w : Nat) : Int) - 1 := by omega
    simp only [spec_l6Mean.l1]
    rw [mn_end hx ga.2, if_neg f1, ← Nat.succ_mul, X.curS_full, X.curS_full, X.curS_full, X.curS_full]
  | succ d ih =>
    intro i k hi
    generalize hkq : k + (d + 1) = kq
    have hn := ih (i + 1) k (by omega)
    have i3 : i + 1 ≤ 3 := by omega
    have mm : m ≤ 3 := by omega
    have tx : x - 1 + i < a.w := (about_in hx (by omega)).1
    have ty : y - 1 + m < a.h := (about_in hy hm).1
    have f1 : ((x - 1 + i : Nat) : Int) ≤ ((x - 1 + X.aboutN x a.w : Nat) : Int) - 1 := by omega
    have c1 : m * X.aboutN x a.w + i ≤ 1000 := by omega
    have c2 : x - 1 + i ≤ 1000 := by omega
    obtain ⟨_, e2, e3⟩ := place g tx ty
    have f2 : (0 : Int) ≤ (((y - 1 + m) * a.w + (x - 1 + i) : Nat) : Int) := Int.natCast_nonneg _
    have f3 : (((y - 1 + m) * a.w + (x - 1 + i) : Nat) : Int) < (a.l.length : Int) := Int.ofNat_lt.2 e2
    have e : wrap64 ((wrap64 (((y - 1 + m : Nat) : Int) * (a.w : Int))) + ((x - 1 + i : Nat) : Int)) = (((y - 1 + m) * a.w + (x - 1 + i) : Nat) : Int) := by
      rw [← Int.natCast_mul]
      generalize (y - 1 + m) * a.w = u at *
      rw [w64 (x := (u : Int)) (by omega) (by omega), w64 (by omega) (by omega)]
      omega
    have b0 := sum_step (a := a) S38.f0 F0 (x0 := x - 1) (y0 := y - 1) n3 mm i3
    have b1 := sum_step (a := a) S38.f1 F1 (x0 := x - 1) (y0 := y - 1) n3 mm i3
    have b2 := sum_step (a := a) S38.f2 F2 (x0 := x - 1) (y0 := y - 1) n3 mm i3
    have b3 := sum_step (a := a) S38.f3 F3 (x0 := x - 1) (y0 := y - 1) n3 mm i3
    simp only [spec_l6Mean.l1]
    rw [mn_end hx ga.2, if_pos f1, e, if_pos f2, if_pos f3, b0, b1, b2, b3, step64 c1, step64 c2, ← hkq]
    exact hn
theorem quo64 (s : Int) (n : Nat) (h0 : 0 ≤ s) (h1 : s ≤ 2295) (hn : 1 ≤ n) : wrap64 (Int.tdiv s (n : Int)) = s / (n : Int) := by
  rw [← i64_w]
  exact X.quoS s n h0 h1 hn
theorem sMean_all {a : Pic} (g : Ok a) {x y : Nat} (hx : x < a.w) (hy : y < a.h) : ∀ (d m k : Nat), m + d = X.aboutN y a.h → d * 5 < k →
    spec_l6Mean.l0 k (x : Int) (y : Int) ((m * X.aboutN x a.w : Nat) : Int) ((y - 1 + m : Nat) : Int) (a.w : Int) (a.h : Int) a.l (X.totS (X.fieldS a.w a.l S38.f0) (x - 1) (y - 1) (X.aboutN x a.w) m) (X.totS (X.fieldS a.w a.l S38.f1) (x - 1) (y - 1) (X.aboutN x a.w) m) (X.totS (X.fieldS a.w a.l S38.f2) (x - 1) (y - 1) (X.aboutN x a.w) m) (X.totS (X.fieldS a.w a.l S38.f3) (x - 1) (y - 1) (X.aboutN x a.w) m) =
      some ((blurC a (x : Int) (y : Int)).f0, (blurC a (x : Int) (y : Int)).f1, (blurC a (x : Int) (y : Int)).f2, (blurC a (x : Int) (y : Int)).f3) := by
  have ga := g.1
  have ga2 := g.2.1
  have n3 : X.aboutN x a.w ≤ 3 := about_three
  have m3 : X.aboutN y a.h ≤ 3 := about_three
  have n1 : 1 ≤ X.aboutN x a.w := about_pos hx
  have m1 : 1 ≤ X.aboutN y a.h := about_pos hy
  obtain ⟨F0, F1, F2, F3⟩ := X.fieldS_bd (ok_fits g)
  intro d
  induction d with
  | zero =>
    intro m k hi hk
    obtain ⟨k, rfl⟩ : ∃ m, k = m + 1 := ⟨k - 1, by omega⟩
    obtain rfl : m = X.aboutN y a.h := by omega
    have f1 : ¬ ((y - 1 + X.aboutN y a.h : Nat) : Int) ≤ ((y - 1 + X.aboutN y a.h : Nat) : Int) - 1 := by omega
    have hp : 1 ≤ X.aboutN y a.h * X.aboutN x a.w := Nat.mul_le_mul m1 n1
    have f2 : ¬ ((X.aboutN y a.h * X.aboutN x a.w : Nat) : Int) = 0 := by omega
    have t0 := X.totS_bd F0 (x - 1) (y - 1) (X.aboutN x a.w) (X.aboutN y a.h) n3 m3
    have t1 := X.totS_bd F1 (x - 1) (y - 1) (X.aboutN x a.w) (X.aboutN y a.h) n3 m3
    have t2 := X.totS_bd F2 (x - 1) (y - 1) (X.aboutN x a.w) (X.aboutN y a.h) n3 m3
    have t3 := X.totS_bd F3 (x - 1) (y - 1) (X.aboutN x a.w) (X.aboutN y a.h) n3 m3
    simp only [spec_l6Mean.l0]
    rw [mn_end hy ga2.2, if_neg f1, if_neg f2, quo64 _ _ t0.1 t0.2 hp, quo64 _ _ t1.1 t1.2 hp, quo64 _ _ t2.1 t2.2 hp, quo64 _ _ t3.1 t3.2 hp, ← blurS_c a hx hy]
    unfold X.blurS
    simp only [Int.toNat_natCast]
  | succ d ih =>
    intro m k hi hk
    obtain ⟨j, hj⟩ : ∃ j, k = j + X.aboutN x a.w + 1 + 1 := ⟨k - X.aboutN x a.w - 2, by omega⟩
    have hm : m < X.aboutN y a.h := by omega
    have f1 : ((y - 1 + m : Nat) : Int) ≤ ((y - 1 + X.aboutN y a.h : Nat) : Int) - 1 := by omega
    have hn := ih (m + 1) j (by omega) (by omega)
    have c1 : y - 1 + m ≤ 1000 := by omega
    have e := sMean_row g hx hy m hm (X.aboutN x a.w) 0 j (by omega)
    rw [hj]
    simp only [spec_l6Mean.l0]
    rw [mn_end hy ga2.2, if_pos f1, mx_start (show x ≤ 100 by omega)]
    refine Eq.trans ?_ hn
    rw [Nat.add_zero, Nat.add_zero, X.curS_zero, X.curS_zero, X.curS_zero, X.curS_zero, step64 c1] at e
    exact e
theorem sMean_ok {a : Pic} (g : Ok a) {x y : Nat} (hx : x < a.w) (hy : y < a.h) (k : Nat) (hk : 20 ≤ k) :
    spec_l6Mean.f k (a.w : Int) (a.h : Int) a.l (x : Int) (y : Int) = some ((blurC a (x : Int) (y : Int)).f0, (blurC a (x : Int) (y : Int)).f1, (blurC a (x : Int) (y : Int)).f2, (blurC a (x : Int) (y : Int)).f3) := by
  have gh := g.2.1
  have m3 : X.aboutN y a.h ≤ 3 := about_three
  have e := sMean_all g hx hy (X.aboutN y a.h) 0 k (Nat.zero_add _) (by omega)
  unfold spec_l6Mean.f
  rw [mx_start (show y ≤ 100 by omega)]
  rw [Nat.zero_mul, Nat.add_zero] at e
  exact e
theorem specOpOk_ok (q a b c d : Int) : spec_OpOk.f q a b c d = some (decide (OpQ q a b c d)) := by
  unfold spec_OpOk.f
  simp only [l1In_ok, Option.bind_some]
  by_cases h1 : q = 1
  · subst h1
    by_cases g1 : 0 ≤ a ∧ a ≤ 5 <;> by_cases g2 : 0 ≤ b ∧ b ≤ 5 <;> by_cases g3 : 1 ≤ c ∧ c ≤ 6 <;> by_cases g4 : 1 ≤ d ∧ d ≤ 6 <;> simp [OpQ, g1, g2, g3, g4]
  by_cases h7 : q = 7
  · subst h7
    by_cases g1 : 1 ≤ a ∧ a ≤ 6 <;> by_cases g2 : 1 ≤ b ∧ b ≤ 6 <;> by_cases g3 : c = 0 <;> by_cases g4 : d = 0 <;> simp [OpQ, g1, g2, g3, g4]
  by_cases h8 : q = 8
  · subst h8
    by_cases g1 : 0 ≤ a ∧ a ≤ 255 <;> by_cases g2 : 0 ≤ b ∧ b ≤ 255 <;> by_cases g3 : 0 ≤ c ∧ c ≤ 255 <;> by_cases g4 : d = 0 <;> simp [OpQ, g1, g2, g3, g4]
  rw [if_neg h1, if_neg h7, if_neg h8]
  by_cases h2 : 2 ≤ q ∧ q ≤ 6 <;> by_cases g1 : a = 0 <;> by_cases g2 : b = 0 <;> by_cases g3 : c = 0 <;> by_cases g4 : d = 0 <;> simp [OpQ, h1, h7, h8, h2, g1, g2, g3, g4]
theorem cells_next {w i : Nat} (d : Int → Int → S38) (v : S38) (hv : v = d ((i % w : Nat) : Int) ((i / w : Nat) : Int)) : cells w d i ++ [v] = cells w d (i + 1) := by
  unfold cells
  rw [List.range_succ, List.map_append, List.map_singleton, hv]
theorem rd_of {a : Pic} {i : Nat} (h : i < a.l.length) : rd_T38 a.l (i : Int) = a.c ((i % a.w : Nat) : Int) ((i / a.w : Nat) : Int) := by
  rw [rdP h]; exact grid_get _ _ _ _ h
theorem in_of {a : Pic} (g : Ok a) {i : Nat} (h : i < a.l.length) : i % a.w < a.w ∧ i / a.w < a.h := by
  have gw := g.1
  exact ⟨Nat.mod_lt _ (by omega), Nat.div_lt_of_lt_mul (by rw [← (ok_len g).1]; exact h)⟩
theorem sGray_ok {p : S38} (h : X.PixG p) : spec_l6Gray.f p.f0 p.f1 p.f2 p.f3 = some ((X.grayS p).f0, (X.grayS p).f1, (X.grayS p).f2, (X.grayS p).f3) := by
  obtain ⟨h1, h2, h3, _⟩ := h
  unfold X.PartG at h1 h2 h3
  have e : wrap64 (Int.tdiv (wrap64 ((wrap64 ((wrap64 (77 * p.f0)) + (wrap64 (150 * p.f1)))) + (wrap64 (29 * p.f2)))) 256) = (77 * p.f0 + 150 * p.f1 + 29 * p.f2) / 256 := by
    rw [w64 (x := 77 * p.f0) (by omega) (by omega), w64 (x := 150 * p.f1) (by omega) (by omega), w64 (x := 29 * p.f2) (by omega) (by omega), w64 (x := 77 * p.f0 + 150 * p.f1) (by omega) (by omega), w64 (x := 77 * p.f0 + 150 * p.f1 + 29 * p.f2) (by omega) (by omega), Int.tdiv_eq_ediv_of_nonneg (by omega)]
    exact w64 (by omega) (by omega)
  unfold spec_l6Gray.f
  rw [e]
  rfl
theorem over64 {f a b : Int} (ha : X.PartG a) (hf : X.PartG f) (hb : X.PartG b) : wrap64 (Int.tdiv (wrap64 ((wrap64 (f * a)) + (wrap64 (b * (wrap64 (255 - a)))))) 255) = X.overS a f b := by
  unfold X.PartG at *
  have h1 : f * a ≤ 255 * a := Int.mul_le_mul_of_nonneg_right hf.2 ha.1
  have h2 : b * (255 - a) ≤ 255 * (255 - a) := Int.mul_le_mul_of_nonneg_right hb.2 (by omega)
  have h3 : 0 ≤ f * a := Int.mul_nonneg hf.1 ha.1
  have h4 : 0 ≤ b * (255 - a) := Int.mul_nonneg hb.1 (by omega)
  unfold X.overS
  rw [w64 (x := 255 - a) (by omega) (by omega)]
  generalize f * a = u at *
  generalize b * (255 - a) = v at *
  rw [w64 (x := u) (by omega) (by omega), w64 (x := v) (by omega) (by omega), w64 (x := u + v) (by omega) (by omega), Int.tdiv_eq_ediv_of_nonneg (by omega)]
  exact w64 (by omega) (by omega)
theorem sFlat_ok {A B C : Int} (hA : X.PartG A) (hB : X.PartG B) (hC : X.PartG C) (K D : Int) {p : S38} (h : X.PixG p) : spec_l6Flat.f p.f0 p.f1 p.f2 p.f3 K A B C D = some ((X.flatS A B C p).f0, (X.flatS A B C p).f1, (X.flatS A B C p).f2, (X.flatS A B C p).f3) := by
  unfold spec_l6Flat.f
  rw [over64 h.2.2.2 h.1 hA, over64 h.2.2.2 h.2.1 hB, over64 h.2.2.2 h.2.2.1 hC]
  rfl
theorem each_l {a : Pic} (g : Ok a) (K A B C D : Int) (d : Int → Int → S38) (hS : ∀ (i k : Nat) (x : List S38), i < a.l.length → 30 ≤ k → x.length < 100 →
    spec_l6Each.l0 (k + 1) (i : Int) (a.w : Int) (a.h : Int) a.l K A B C D (a.w : Int) (a.h : Int) x = spec_l6Each.l0 k (wrap64 ((i : Int) + 1)) (a.w : Int) (a.h : Int) a.l K A B C D (a.w : Int) (a.h : Int) (x ++ [d ((i % a.w : Nat) : Int) ((i / a.w : Nat) : Int)])) : ∀ (n i k : Nat), i + n = a.l.length → n + 40 < k →
    spec_l6Each.l0 k (i : Int) (a.w : Int) (a.h : Int) a.l K A B C D (a.w : Int) (a.h : Int) (cells a.w d i) = some ((a.w : Int), (a.h : Int), grid a.w a.h d) := by
  have hl := ok_len g
  intro n
  induction n with
  | zero =>
    intro i k hi hk
    obtain ⟨k, rfl⟩ : ∃ m, k = m + 1 := ⟨k - 1, by omega⟩
    obtain rfl : i = a.l.length := by omega
    simp only [spec_l6Each.l0]
    rw [if_neg (Int.lt_irrefl _), hl.1, cells_all]
  | succ n ih =>
    intro i k hi hk
    obtain ⟨k, rfl⟩ : ∃ m, k = m + 1 := ⟨k - 1, by omega⟩
    have hn := ih (i + 1) k (by omega) (by omega)
    have i1 : i < a.l.length := by omega
    have i2 : i ≤ 1000 := by omega
    have i3 : 30 ≤ k := by omega
    have i4 : i < 100 := by omega
    rw [hS i k _ i1 i3 (by rw [cells_len]; exact i4), cells_next d _ rfl, step64 i2]
    exact hn
theorem each_gray {a : Pic} (g : Ok a) (A B C D : Int) (k : Nat) (hk : 100 ≤ k) : spec_l6Each.f k (a.w : Int) (a.h : Int) a.l 5 A B C D = some ((a.w : Int), (a.h : Int), grid a.w a.h (fun x y => X.grayS (a.c x y))) := by
  have hl := ok_len g
  have e := each_l g 5 A B C D (fun x y => X.grayS (a.c x y)) (fun i k x hi hk hx => by
    have hr := rd_of hi
    have hp := g.2.2 _ _ (in_of g hi).1 (in_of g hi).2
    have h4 : x.length < 4398046511104 := Nat.lt_trans hx (by decide)
    simp only [spec_l6Each.l0]
    rw [if_pos (Int.ofNat_lt.2 hi), if_pos trivial, if_pos (Int.natCast_nonneg i), hr, sGray_ok hp, Option.bind_some, if_pos h4]) a.l.length 0 k (Nat.zero_add _) (by omega)
  unfold spec_l6Each.f
  exact e
theorem each_flat {a : Pic} (g : Ok a) {A B C : Int} (hA : X.PartG A) (hB : X.PartG B) (hC : X.PartG C) (D : Int) (k : Nat) (hk : 100 ≤ k) : spec_l6Each.f k (a.w : Int) (a.h : Int) a.l 8 A B C D = some ((a.w : Int), (a.h : Int), grid a.w a.h (fun x y => X.flatS A B C (a.c x y))) := by
  have hl := ok_len g
  have e := each_l g 8 A B C D (fun x y => X.flatS A B C (a.c x y)) (fun i k x hi hk hx => by
    have hr := rd_of hi
    have hp := g.2.2 _ _ (in_of g hi).1 (in_of g hi).2
    have h4 : x.length < 4398046511104 := Nat.lt_trans hx (by decide)
    simp only [spec_l6Each.l0]
    rw [if_pos (Int.ofNat_lt.2 hi), if_neg (by decide), if_neg (by decide), if_pos (Int.natCast_nonneg i), hr, sFlat_ok hA hB hC 8 D hp, Option.bind_some, if_pos h4]) a.l.length 0 k (Nat.zero_add _) (by omega)
  unfold spec_l6Each.f
  exact e
theorem each_blur {a : Pic} (g : Ok a) (A B C D : Int) (k : Nat) (hk : 100 ≤ k) : spec_l6Each.f k (a.w : Int) (a.h : Int) a.l 6 A B C D = some ((a.w : Int), (a.h : Int), grid a.w a.h (blurC a)) := by
  have hl := ok_len g
  have e := each_l g 6 A B C D (blurC a) (fun i k x hi hk hx => by
    have h4 : x.length < 4398046511104 := Nat.lt_trans hx (by decide)
    have hw : ¬ (a.w : Int) = 0 := by have := g.1.1; omega
    have hd := Nat.div_le_self i a.w
    have e1 : Int.tmod (i : Int) (a.w : Int) = ((i % a.w : Nat) : Int) := by rw [Int.tmod_eq_emod_of_nonneg (Int.natCast_nonneg i), ← Int.natCast_emod]
    have e2 : wrap64 (Int.tdiv (i : Int) (a.w : Int)) = ((i / a.w : Nat) : Int) := by
      rw [Int.tdiv_eq_ediv_of_nonneg (Int.natCast_nonneg i), ← Int.natCast_ediv]
      generalize i / a.w = q at *
      exact w64 (by omega) (by omega)
    have hm := sMean_ok g (in_of g hi).1 (in_of g hi).2 k (Nat.le_trans (by decide) hk)
    simp only [spec_l6Each.l0]
    rw [if_pos (Int.ofNat_lt.2 hi), if_neg (by decide), if_pos trivial, if_neg hw, e1, e2, hm, Option.bind_some, if_pos h4]) a.l.length 0 k (Nat.zero_add _) (by omega)
  unfold spec_l6Each.f
  exact e
theorem specDo_ok {a : Pic} (g : Ok a) (K A B C D : Int) (h : X.OpP K A B C D) (k : Nat) (hk : 200 ≤ k) : spec_l6Do.f k (a.w : Int) (a.h : Int) a.l K A B C D = some (X.opGo a.w a.h a.l K A B C D) := by
  have gw := g.1
  have gh := g.2.1
  unfold spec_l6Do.f
  have hm8 (n m : Nat) (hn : n ≤ 6) (hm : m ≤ 6) : n * (m + 2) < k := Nat.lt_of_le_of_lt (Nat.mul_le_mul hn (Nat.add_le_add_right hm 2)) (Nat.lt_of_lt_of_le (by decide) hk)
  rcases h with ⟨rfl, a0, a1, b0, b1, c0, c1, d0, d1⟩ | ⟨k2, k6, rfl, rfl, rfl, rfl⟩ | ⟨rfl, a0, a1, b0, b1, rfl, rfl⟩ | ⟨rfl, a0, a1, b0, b1, c0, c1, rfl⟩
  · obtain ⟨x0, rfl⟩ := Int.eq_ofNat_of_zero_le a0
    obtain ⟨y0, rfl⟩ := Int.eq_ofNat_of_zero_le b0
    obtain ⟨cw, rfl⟩ := Int.eq_ofNat_of_zero_le (show 0 ≤ C by omega)
    obtain ⟨ch, rfl⟩ := Int.eq_ofNat_of_zero_le (show 0 ≤ D by omega)
    obtain ⟨j, rfl⟩ : ∃ j, k = j + 1 := ⟨k - 1, by omega⟩
    rw [if_pos rfl, w64 (x := (x0 : Int) + (cw : Int)) (by omega) (by omega), w64 (x := (y0 : Int) + (ch : Int)) (by omega) (by omega)]
    by_cases h1 : (x0 : Int) + (cw : Int) > (a.w : Int)
    · rw [if_pos h1]
      simp only [spec_l6Do.j0]
      rw [if_pos trivial]
      unfold X.opGo
      rw [if_pos rfl, if_pos (Or.inl h1)]
    · rw [if_neg h1]
      simp only [spec_l6Do.j0]
      by_cases h2 : (y0 : Int) + (ch : Int) > (a.h : Int)
      · rw [if_pos (decide_eq_true h2)]
        unfold X.opGo
        rw [if_pos rfl, if_pos (Or.inr h2)]
      · rw [decide_eq_false h2, if_neg (by decide), (does_crop g x0 y0 cw ch (by omega) (by omega) (by omega) (by omega)).2.1]
        have e := sCrop_all g 1 x0 y0 cw ch (by omega) (by omega) ch 0 j (Nat.zero_add _) (by have := hm8 ch cw (by omega) (by omega); have := Nat.mul_le_mul (show ch ≤ 6 by omega) (show cw + 2 ≤ 8 by omega); omega)
        rw [Nat.zero_mul] at e
        unfold spec_l6Crop.f
        rw [show ((0 : Nat) : Int) = 0 from rfl] at e
        rw [show ([] : List S38) = cells cw (fun x y => a.c ((x0 : Int) + x) ((y0 : Int) + y)) 0 from rfl, e, Option.bind_some]
        rfl
  · rw [if_neg (show ¬ K = 1 by omega)]
    by_cases h2 : K = 2
    · subst h2
      have e := sFlip_all g a.h 0 k (Nat.zero_add _) (hm8 _ _ gh.2 gw.2)
      rw [Nat.zero_mul] at e
      rw [if_pos rfl, (does_mirror g).2.1]
      unfold spec_l6FlipX.f
      rw [show ((0 : Nat) : Int) = 0 from rfl] at e
      rw [show ([] : List S38) = cells a.w (fun x y => a.c ((a.w : Int) - 1 - x) y) 0 from rfl, e, Option.bind_some]
      rfl
    rw [if_neg h2]
    by_cases h3 : K = 3
    · subst h3
      have e := s5_all g a.h 0 k (Nat.zero_add _) (by omega)
      rw [Nat.zero_mul] at e
      rw [if_pos rfl, (does_over g).2.1]
      unfold spec_l5Flip.f
      rw [show (a.h : Int) - 1 - ((0 : Nat) : Int) = (a.h : Int) - 1 by omega] at e
      rw [show ([] : List S38) = cells a.w (fun x y => a.c x ((a.h : Int) - 1 - y)) 0 from rfl, w64 (x := (a.h : Int) - 1) (by omega) (by omega), e, Option.bind_some]
      rfl
    rw [if_neg h3]
    by_cases h4 : K = 4
    · subst h4
      have e := sTurn_all g a.w 0 k (Nat.zero_add _) (hm8 _ _ gw.2 gh.2)
      rw [Nat.zero_mul] at e
      rw [if_pos rfl, (does_turn g).2.1]
      unfold spec_l6Turn.f
      rw [show ((0 : Nat) : Int) = 0 from rfl] at e
      rw [show ([] : List S38) = cells a.h (fun x y => a.c y ((a.h : Int) - 1 - x)) 0 from rfl, e, Option.bind_some]
      rfl
    rw [if_neg h4, if_neg (show ¬ K = 7 by omega)]
    by_cases h5 : K = 5
    · subst h5
      rw [each_gray g 0 0 0 0 k (by omega), Option.bind_some, (does_gray g).2.1]
      rfl
    · obtain rfl : K = 6 := by omega
      rw [each_blur g 0 0 0 0 k (by omega), Option.bind_some, (does_blur g).2.1]
      rfl
  · obtain ⟨p, rfl⟩ := Int.eq_ofNat_of_zero_le (show 0 ≤ A by omega)
    obtain ⟨q, rfl⟩ := Int.eq_ofNat_of_zero_le (show 0 ≤ B by omega)
    have e := sSize_all g 7 p q (by omega) (by omega) (by omega) (by omega) 0 0 q 0 k (Nat.zero_add _) (hm8 _ _ (by omega) (by omega))
    rw [Nat.zero_mul] at e
    rw [if_neg (by decide), if_neg (by decide), if_neg (by decide), if_neg (by decide), if_pos rfl, (does_size g p q (by omega) (by omega) (by omega) (by omega)).2.1]
    unfold spec_l6Size.f
    rw [show ((0 : Nat) : Int) = 0 from rfl] at e
    rw [show ([] : List S38) = cells p (fun x y => a.c ((2 * x + 1) * (a.w : Int) / (2 * (p : Int))) ((2 * y + 1) * (a.h : Int) / (2 * (q : Int)))) 0 from rfl, e, Option.bind_some]
    rfl
  · rw [if_neg (by decide), if_neg (by decide), if_neg (by decide), if_neg (by decide), if_neg (by decide), each_flat g ⟨a0, a1⟩ ⟨b0, b1⟩ ⟨c0, c1⟩ 0 k (by omega), Option.bind_some, (does_flat g A B C ⟨a0, a1⟩ ⟨b0, b1⟩ ⟨c0, c1⟩).2.1]
    rfl
/-- What is done with a picture, or with none. -/
def doS (W H : Int) (r : List S38) (K A B C D : Int) : Int × Int × List S38 × Bool := if RasP W H r ∧ OpQ K A B C D then X.opGo W.toNat H.toNat r K A B C D else (0, 0, [], false)
theorem specOpDo_ok (W H : Int) (r : List S38) (K A B C D : Int) (hl : r.length ≤ 1099511627776) (k : Nat) (hk : r.length + 200 ≤ k) : spec_OpDo.f k W H r K A B C D = some (doS W H r K A B C D) := by
  unfold spec_OpDo.f doS
  rw [specRasOk_ok W H r hl k (by omega), Option.bind_some]
  by_cases hr : RasP W H r
  · rw [if_pos (decide_eq_true hr), specOpOk_ok, Option.bind_some]
    by_cases ho : OpQ K A B C D
    · rw [if_pos (decide_eq_true ho), if_pos ⟨hr, ho⟩]
      obtain ⟨a, g, rfl, rfl, rfl⟩ := of_ras hr
      rw [Int.toNat_natCast, Int.toNat_natCast, specDo_ok g K A B C D ((opQ_iff _ _ _ _ _).1 ho) k (by omega), Option.bind_some]
    · rw [if_neg (show ¬ decide (OpQ K A B C D) = true from fun h => ho (of_decide_eq_true h)), if_neg (fun h => ho h.2)]
  · rw [if_neg (show ¬ decide (RasP W H r) = true from fun h => hr (of_decide_eq_true h)), if_neg (fun h => hr h.1)]
theorem implOpDo_ok (W H : Int) (r : List S38) (K A B C D : Int) (hl : r.length ≤ 1099511627776) (k : Nat) (hk : r.length + 200 ≤ k) : impl_OpDo.f k W H r K A B C D = some (doS W H r K A B C D) := by
  unfold impl_OpDo.f doS
  rw [implRasOk_ok W H r hl k (by omega), Option.bind_some]
  by_cases hr : RasP W H r
  · rw [if_pos (decide_eq_true hr), implOpOk_ok _ _ _ _ _ k (by omega), Option.bind_some]
    by_cases ho : OpQ K A B C D
    · rw [if_pos (decide_eq_true ho)]
      obtain ⟨a, g, rfl, rfl, rfl⟩ := of_ras hr
      rw [Int.toNat_natCast, Int.toNat_natCast, if_pos ⟨Int.natCast_nonneg _, Int.natCast_nonneg _, ok_fits g, (opQ_iff _ _ _ _ _).1 ho⟩, if_pos ⟨hr, ho⟩]
    · rw [if_neg (show ¬ decide (OpQ K A B C D) = true from fun h => ho (of_decide_eq_true h)), if_neg (fun h => ho h.2)]
  · rw [if_neg (show ¬ decide (RasP W H r) = true from fun h => hr (of_decide_eq_true h)), if_neg (fun h => hr h.1)]
theorem opGo_pic {a : Pic} (g : Ok a) {K A B C D : Int} (h : X.OpP K A B C D) (h1 : ¬ K = 1) : ∃ b : Pic, X.opGo a.w a.h a.l K A B C D = ((b.w : Int), (b.h : Int), b.l, true) ∧ Ok b ∧
    (b.w : Int) = (if K = 4 then (a.h : Int) else if K = 7 then A else (a.w : Int)) ∧ (b.h : Int) = (if K = 4 then (a.w : Int) else if K = 7 then B else (a.h : Int)) := by
  rcases h with ⟨rfl, _⟩ | ⟨k2, k6, rfl, rfl, rfl, rfl⟩ | ⟨rfl, a0, a1, b0, b1, rfl, rfl⟩ | ⟨rfl, a0, a1, b0, b1, c0, c1, rfl⟩
  · exact absurd rfl h1
  · by_cases h2 : K = 2
    · subst h2; exact ⟨_, (does_mirror g).2.1, (does_mirror g).2.2, rfl, rfl⟩
    by_cases h3 : K = 3
    · subst h3; exact ⟨_, (does_over g).2.1, (does_over g).2.2, rfl, rfl⟩
    by_cases h4 : K = 4
    · subst h4; exact ⟨_, (does_turn g).2.1, (does_turn g).2.2, rfl, rfl⟩
    by_cases h5 : K = 5
    · subst h5; exact ⟨_, (does_gray g).2.1, (does_gray g).2.2, rfl, rfl⟩
    obtain rfl : K = 6 := by omega
    exact ⟨_, (does_blur g).2.1, (does_blur g).2.2, rfl, rfl⟩
  · obtain ⟨p, rfl⟩ := Int.eq_ofNat_of_zero_le (show 0 ≤ A by omega)
    obtain ⟨q, rfl⟩ := Int.eq_ofNat_of_zero_le (show 0 ≤ B by omega)
    have d := does_size g p q (by omega) (by omega) (by omega) (by omega)
    exact ⟨_, d.2.1, d.2.2, rfl, rfl⟩
  · have d := does_flat g A B C ⟨a0, a1⟩ ⟨b0, b1⟩ ⟨c0, c1⟩
    exact ⟨_, d.2.1, d.2.2, rfl, rfl⟩
theorem opGo_len {a : Pic} (g : Ok a) {K A B C D : Int} (h : X.OpP K A B C D) : (X.opGo a.w a.h a.l K A B C D).2.2.1.length ≤ 36 := by
  by_cases h1 : K = 1
  · subst h1
    have h' : 1 ≤ C ∧ C ≤ 6 ∧ 1 ≤ D ∧ D ≤ 6 := by unfold X.OpP at h; omega
    unfold X.opGo
    rw [if_pos rfl]
    split
    · exact Nat.zero_le _
    · dsimp only
      rw [grid_len]
      exact Nat.mul_le_mul (show C.toNat ≤ 6 by omega) (show D.toNat ≤ 6 by omega)
  · obtain ⟨b, e, gb, _⟩ := opGo_pic g h h1
    rw [e]
    exact (ok_len gb).2.2
theorem doS_len (W H : Int) (r : List S38) (K A B C D : Int) : (doS W H r K A B C D).2.2.1.length ≤ 36 := by
  unfold doS
  split
  · rename_i hc
    obtain ⟨a, g, rfl, rfl, rfl⟩ := of_ras hc.1
    rw [Int.toNat_natCast, Int.toNat_natCast]
    exact opGo_len g ((opQ_iff _ _ _ _ _).1 hc.2)
  · exact Nat.zero_le _

theorem xor_nonneg (a b : Int) (ha : 0 ≤ a) (hb : 0 ≤ b) (ha1 : a < 4611686018427387904) (hb1 : b < 4611686018427387904) : 0 ≤ Go.bits .xor .i64 a b := by
  obtain ⟨m, rfl⟩ := Int.eq_ofNat_of_zero_le ha
  obtain ⟨n, rfl⟩ := Int.eq_ofNat_of_zero_le hb
  have hm : m < 2 ^ 62 := by omega
  have hn : n < 2 ^ 62 := by omega
  have hx : m ^^^ n < 2 ^ 62 := Nat.xor_lt_two_pow hm hn
  have h1 : m % 2 ^ 64 = m := Nat.mod_eq_of_lt (by omega)
  have h2 : n % 2 ^ 64 = n := Nat.mod_eq_of_lt (by omega)
  have e : Go.bits .xor .i64 (m : Int) (n : Int) = IntKind.i64.wrap ((m ^^^ n : Nat) : Int) := by
    simp only [Go.bits, BitVec.ofInt_natCast, BitVec.toNat_xor, BitVec.toNat_ofNat]
    rw [show IntKind.bits .i64 = 64 from rfl, h1, h2]
  rw [e]
  have : IntKind.i64.wrap ((m ^^^ n : Nat) : Int) = wrap64 ((m ^^^ n : Nat) : Int) := i64_w _
  rw [this, w64 (by omega) (by omega)]
  omega
theorem tmod_in (x n : Int) (hx : 0 ≤ x) (hn : 1 ≤ n) : 0 ≤ Int.tmod x n ∧ Int.tmod x n < n := ⟨Int.tmod_nonneg _ hx, Int.tmod_lt_of_pos _ (by omega)⟩
theorem pick_ok (s : List Int) (hs : Bytes s) (hl : s.length ≤ 2000) (p n : Int) (h0 : 0 ≤ p) (h1 : p ≤ 1000000) :
    ∃ r, (∀ k, 1 ≤ k → spec_l20Rd_pick.f k s p n = some (r, p + 1)) ∧ 0 ≤ r ∧ (1 ≤ n → r < n) ∧ (n < 1 → r = 0) := by
  have hp1 : wrap64 (p + 1) = p + 1 := w64 (by omega) (by omega)
  have hp2 : wrap64 (p + 1 - 1) = p := by rw [w64 (by omega) (by omega)]; omega
  by_cases hn : n < 1
  · refine ⟨0, fun k hk => ?_, by omega, by omega, fun _ => rfl⟩
    obtain ⟨k, rfl⟩ : ∃ m, k = m + 1 := ⟨k - 1, by omega⟩
    unfold spec_l20Rd_pick.f
    rw [if_pos hn, hp1]
    simp only [spec_l20Rd_pick.j0, if_true]
  by_cases hz : s.length = 0
  · refine ⟨0, fun k hk => ?_, by omega, by omega, fun h => by omega⟩
    obtain ⟨k, rfl⟩ : ∃ m, k = m + 1 := ⟨k - 1, by omega⟩
    unfold spec_l20Rd_pick.f
    rw [if_neg hn, hp1, hz]
    simp only [spec_l20Rd_pick.j0]
    rfl
  have hb : ((s.length : Int) == 0) = false := by rw [beq_eq_false_iff_ne]; omega
  by_cases hlt : p < (s.length : Int)
  · obtain ⟨hr0, hr1⟩ := rd_byte hs p
    obtain ⟨ht0, ht1⟩ := tmod_in (rd s p) n hr0 (by omega)
    refine ⟨Int.tmod (rd s p) n, fun k hk => ?_, ht0, fun _ => ht1, fun h => by omega⟩
    obtain ⟨k, rfl⟩ : ∃ m, k = m + 1 := ⟨k - 1, by omega⟩
    unfold spec_l20Rd_pick.f
    rw [if_neg hn, hp1, hb]
    simp only [spec_l20Rd_pick.j0, hp2]
    rw [if_neg (by decide), if_pos hlt, if_pos h0, if_neg (by omega), w64 (by omega) (by omega)]
  · have hL : (1 : Int) ≤ (s.length : Int) := by omega
    obtain ⟨hk0, hk1⟩ := tmod_in p (s.length : Int) h0 hL
    have hw7 : wrap64 (p * 7) = p * 7 := w64 (by omega) (by omega)
    have hw3 : wrap64 (p * 7 + 3) = p * 7 + 3 := w64 (by omega) (by omega)
    obtain ⟨hj0, hj1⟩ := tmod_in (p * 7 + 3) (s.length : Int) (by omega) hL
    obtain ⟨hr0, hr1⟩ := rd_byte hs (Int.tmod p (s.length : Int))
    obtain ⟨hq0, hq1⟩ := rd_byte hs (Int.tmod (p * 7 + 3) (s.length : Int))
    have hd : Int.tdiv p (s.length : Int) = p / (s.length : Int) := Int.tdiv_eq_ediv_of_nonneg h0
    have hd0 : 0 ≤ p / (s.length : Int) := Int.ediv_nonneg h0 (by omega)
    have hd1 : p / (s.length : Int) ≤ p := Int.ediv_le_self _ h0
    generalize hA : rd s (Int.tmod p (s.length : Int)) = A at hr0 hr1
    generalize hB : rd s (Int.tmod (p * 7 + 3) (s.length : Int)) = B at hq0 hq1
    generalize hD : p / (s.length : Int) = D at hd hd0 hd1
    have hx0 : 0 ≤ A * 131 + B * 1117 + p * 29 + D * 53 := by omega
    have hx1 : A * 131 + B * 1117 + p * 29 + D * 53 ≤ 100000000 := by omega
    have hx64 : Int.tdiv (A * 131 + B * 1117 + p * 29 + D * 53) 64 = (A * 131 + B * 1117 + p * 29 + D * 53) / 64 := Int.tdiv_eq_ediv_of_nonneg hx0
    have hX := xor_nonneg (A * 131 + B * 1117 + p * 29 + D * 53) ((A * 131 + B * 1117 + p * 29 + D * 53) / 64) hx0 (by omega) (by omega) (by omega)
    obtain ⟨ht0, ht1⟩ := tmod_in (Go.bits .xor .i64 (A * 131 + B * 1117 + p * 29 + D * 53) ((A * 131 + B * 1117 + p * 29 + D * 53) / 64)) n hX (by omega)
    refine ⟨_, fun k hk => ?_, ht0, fun _ => ht1, fun h => by omega⟩
    obtain ⟨k, rfl⟩ : ∃ m, k = m + 1 := ⟨k - 1, by omega⟩
    unfold spec_l20Rd_pick.f
    rw [if_neg hn, hp1, hb]
    simp only [spec_l20Rd_pick.j0, hp2, hw7, hw3]
    rw [if_neg (by decide), if_neg hlt, if_neg (by omega), if_pos hk0, if_pos hk1, if_pos hj0, if_pos hj1, if_neg (by omega), hA, hB, hd]
    rw [w64 (x := A) (by omega) (by omega), w64 (x := B) (by omega) (by omega), w64 (x := D) (by omega) (by omega), w64 (x := A * 131) (by omega) (by omega), w64 (x := B * 1117) (by omega) (by omega), w64 (x := p * 29) (by omega) (by omega), w64 (x := D * 53) (by omega) (by omega), w64 (x := A * 131 + B * 1117) (by omega) (by omega), w64 (x := A * 131 + B * 1117 + p * 29) (by omega) (by omega), w64 (x := A * 131 + B * 1117 + p * 29 + D * 53) (by omega) (by omega), hx64, w64 (x := (A * 131 + B * 1117 + p * 29 + D * 53) / 64) (by omega) (by omega)]
theorem odd_ok (s : List Int) (hs : Bytes s) (hl : s.length ≤ 2000) (p n : Int) (h0 : 0 ≤ p) (h1 : p ≤ 1000000) (hn : n ≤ 1000000) :
    ∃ b q, (∀ k, 1 ≤ k → spec_l20Rd_odd.f k s p n = some (b, q)) ∧ p ≤ q ∧ q ≤ p + 1 ∧ (n ≤ 0 → b = false) := by
  unfold spec_l20Rd_odd.f
  by_cases h : n > 0
  · obtain ⟨r, hr, _, _, _⟩ := pick_ok s hs hl p n h0 h1
    exact ⟨_, _, fun k hk => by rw [if_pos h, hr k hk]; rfl, by omega, by omega, fun h' => by omega⟩
  · exact ⟨false, p, fun k _ => by rw [if_neg h], by omega, by omega, fun _ => rfl⟩
/-- What the reader opens: the code's first 2000 bytes. -/
theorem open_ok (l : List Int) (hb : Bytes l) : ∃ s, spec_l20Open.f l = some (s, 0) ∧ Bytes s ∧ s.length ≤ 2000 ∧ s.length ≤ l.length := by
  unfold spec_l20Open.f
  by_cases h : (l.length : Int) > 2000
  · refine ⟨l.take 2000, ?_, bytes_take hb _, by rw [List.length_take]; omega, by rw [List.length_take]; omega⟩
    rw [if_pos h, if_pos (by omega)]
  · exact ⟨l, by rw [if_neg h], hb, by omega, Nat.le_refl _⟩
theorem rdAll {P : Int → Prop} {l : List Int} (h : ∀ x ∈ l, P x) {i : Int} (h0 : 0 ≤ i) (h1 : i < (l.length : Int)) : P (rd l i) := by
  obtain ⟨m, rfl⟩ := Int.eq_ofNat_of_zero_le h0
  rw [rd_lt (show m < l.length by omega)]
  exact h _ (List.getElem_mem _)
theorem pix_ok (s : List Int) (hs : Bytes s) (hl : s.length ≤ 2000) (p : Int) (h0 : 0 ≤ p) (h1 : p ≤ 900000) :
    ∃ a b c d, (∀ k, 1 ≤ k → spec_l20Pix.f k s p = some (a, b, c, d, p + 1 + 1 + 1 + 1 + 1 + 1 + 1 + 1)) ∧ PixP a b c d := by
  obtain ⟨r1, e1, l1, u1, _⟩ := pick_ok s hs hl p 256 h0 (by omega)
  obtain ⟨r2, e2, l2, u2, _⟩ := pick_ok s hs hl (p + 1) 3 (by omega) (by omega)
  obtain ⟨r3, e3, l3, u3, _⟩ := pick_ok s hs hl (p + 1 + 1) 256 (by omega) (by omega)
  obtain ⟨r4, e4, l4, u4, _⟩ := pick_ok s hs hl (p + 1 + 1 + 1) 2 (by omega) (by omega)
  obtain ⟨r5, e5, l5, u5, _⟩ := pick_ok s hs hl (p + 1 + 1 + 1 + 1) 256 (by omega) (by omega)
  obtain ⟨r6, e6, l6, u6, _⟩ := pick_ok s hs hl (p + 1 + 1 + 1 + 1 + 1) 2 (by omega) (by omega)
  obtain ⟨r7, e7, l7, u7, _⟩ := pick_ok s hs hl (p + 1 + 1 + 1 + 1 + 1 + 1) 256 (by omega) (by omega)
  obtain ⟨r8, e8, l8, u8, _⟩ := pick_ok s hs hl (p + 1 + 1 + 1 + 1 + 1 + 1 + 1) 4 (by omega) (by omega)
  replace u1 := u1 (by omega)
  replace u2 := u2 (by omega)
  replace u3 := u3 (by omega)
  replace u4 := u4 (by omega)
  replace u5 := u5 (by omega)
  replace u6 := u6 (by omega)
  replace u7 := u7 (by omega)
  replace u8 := u8 (by omega)
  have v1 : (0 : Int) ≤ rd [0, 255, r1] r2 ∧ rd [0, 255, r1] r2 ≤ 255 := rdAll (P := fun z => (0 : Int) ≤ z ∧ z ≤ 255) (by intro z hz; simp only [List.mem_cons, List.not_mem_nil, or_false] at hz; omega) l2 (by simpa using u2)
  have v2 : (0 : Int) ≤ rd [rd [0, 255, r1] r2, r3] r4 ∧ rd [rd [0, 255, r1] r2, r3] r4 ≤ 255 := rdAll (P := fun z => (0 : Int) ≤ z ∧ z ≤ 255) (by intro z hz; simp only [List.mem_cons, List.not_mem_nil, or_false] at hz; omega) l4 (by simpa using u4)
  have v3 : (0 : Int) ≤ rd [rd [0, 255, r1] r2, r5] r6 ∧ rd [rd [0, 255, r1] r2, r5] r6 ≤ 255 := rdAll (P := fun z => (0 : Int) ≤ z ∧ z ≤ 255) (by intro z hz; simp only [List.mem_cons, List.not_mem_nil, or_false] at hz; omega) l6 (by simpa using u6)
  have v4 : (0 : Int) ≤ rd [255, 255, 0, r7] r8 ∧ rd [255, 255, 0, r7] r8 ≤ 255 := rdAll (P := fun z => (0 : Int) ≤ z ∧ z ≤ 255) (by intro z hz; simp only [List.mem_cons, List.not_mem_nil, or_false] at hz; omega) l8 (by simpa using u8)
  refine ⟨_, _, _, _, fun k hk => ?_, v1, v2, v3, v4⟩
  unfold spec_l20Pix.f
  rw [e1 k hk, Option.bind_some, Option.bind_some, e2 k hk, Option.bind_some, if_pos l2, if_pos (by simpa using u2), e3 k hk, Option.bind_some, Option.bind_some, e4 k hk, Option.bind_some, if_pos l4, if_pos (by simpa using u4), e5 k hk, Option.bind_some, Option.bind_some, e6 k hk, Option.bind_some, if_pos l6, if_pos (by simpa using u6), e7 k hk, Option.bind_some, Option.bind_some, e8 k hk, Option.bind_some, if_pos l8, if_pos (by simpa using u8)]
/-- What a drawn picture is at least. -/
def RasD (W H : Int) (l : List S38) : Prop := -10 ≤ W ∧ W ≤ 10 ∧ -10 ≤ H ∧ H ≤ 10 ∧ l.length ≤ 36
theorem rasEnd (s : List Int) (hs : Bytes s) (hl : s.length ≤ 2000) (W H : Int) (hW : 1 ≤ W ∧ W ≤ 6) (hH : 1 ≤ H ∧ H ≤ 6) (x : List S38) (hx : (x.length : Int) = W * H) (hg : ∀ q ∈ x, GoodP q) (n i p a b c d : Int) (hi : i = W * H) (h0 : 0 ≤ p) (h1 : p ≤ 800000) (hn : n ≤ 1000000) :
    ∃ W' H' l q, (∀ k, 1 ≤ k → spec_l20Ras.l0 (k + 1) n i s p W H x a b c d = some (W', H', l, q)) ∧ p ≤ q ∧ q ≤ p + 10 ∧ RasD W' H' l ∧ (n ≤ 0 → RasP W' H' l) := by
  have hm := mulB hW hH
  obtain ⟨o, q1, eo, ho0, ho1, hof⟩ := odd_ok s hs hl p n h0 (by omega) hn
  cases o with
  | false =>
    refine ⟨W, H, x, q1, fun k hk => ?_, by omega, by omega, ⟨by omega, by omega, by omega, by omega, by omega⟩, fun _ => ⟨hW, hH, hx, hg⟩⟩
    simp only [spec_l20Ras.l0]
    rw [w64 (x := W * H) (by omega) (by omega), if_neg (by omega), eo k hk, Option.bind_some, if_neg (by simp)]
  | true =>
    have hno : ¬ n ≤ 0 := fun h => by have := hof h; cases this
    obtain ⟨r, er, r0, r1, _⟩ := pick_ok s hs hl q1 4 (by omega) (by omega)
    replace r1 := r1 (by omega)
    obtain ⟨t4, e4, t0, t1, _⟩ := pick_ok s hs hl (q1 + 1) 4 (by omega) (by omega)
    replace t1 := t1 (by omega)
    obtain ⟨t2, e2, z0, z1, _⟩ := pick_ok s hs hl (q1 + 1) 2 (by omega) (by omega)
    replace z1 := z1 (by omega)
    obtain ⟨tl, el, y0, y1, _⟩ := pick_ok s hs hl (q1 + 1) (x.length : Int) (by omega) (by omega)
    replace y1 := y1 (by omega)
    obtain ⟨te, ee, v0, v1, _⟩ := pick_ok s hs hl (q1 + 1 + 1) 2 (by omega) (by omega)
    replace v1 := v1 (by omega)
    by_cases c0 : r = 0
    · have hv : (-10 : Int) ≤ rd [0, -1, 7, W + 1] t4 ∧ rd [0, -1, 7, W + 1] t4 ≤ 10 := rdAll (P := fun z => (-10 : Int) ≤ z ∧ z ≤ 10) (by intro z hz; simp only [List.mem_cons, List.not_mem_nil, or_false] at hz; omega) t0 (by simpa using t1)
      refine ⟨rd [0, -1, 7, W + 1] t4, H, x, q1 + 1 + 1, fun k hk => ?_, ?_, ?_, ⟨hv.1, hv.2, by omega, by omega, by omega⟩, fun h => absurd h hno⟩
      · simp only [spec_l20Ras.l0]
        rw [w64 (x := W * H) (by omega) (by omega), if_neg (by omega), eo k hk, Option.bind_some, if_pos rfl, er k hk, Option.bind_some, if_pos c0, Option.bind_some, e4 k hk, Option.bind_some, if_pos t0, if_pos (by simpa using t1), w64 (by omega) (by omega)]
      · omega
      · omega
    by_cases c1 : r = 1
    · have hv : (-10 : Int) ≤ rd [0, 7] t2 ∧ rd [0, 7] t2 ≤ 10 := rdAll (P := fun z => (-10 : Int) ≤ z ∧ z ≤ 10) (by intro z hz; simp only [List.mem_cons, List.not_mem_nil, or_false] at hz; omega) z0 (by simpa using z1)
      refine ⟨W, rd [0, 7] t2, x, q1 + 1 + 1, fun k hk => ?_, ?_, ?_, ⟨by omega, by omega, hv.1, hv.2, by omega⟩, fun h => absurd h hno⟩
      · simp only [spec_l20Ras.l0]
        rw [w64 (x := W * H) (by omega) (by omega), if_neg (by omega), eo k hk, Option.bind_some, if_pos rfl, er k hk, Option.bind_some, if_neg c0, if_pos c1, Option.bind_some, e2 k hk, Option.bind_some, if_pos z0, if_pos (by simpa using z1)]
      · omega
      · omega
    by_cases c2 : r = 2
    · refine ⟨W, H, x.drop (1 : Int).toNat, q1 + 1, fun k hk => ?_, ?_, ?_, ⟨by omega, by omega, by omega, by omega, by rw [List.length_drop]; omega⟩, fun h => absurd h hno⟩
      · simp only [spec_l20Ras.l0]
        rw [w64 (x := W * H) (by omega) (by omega), if_neg (by omega), eo k hk, Option.bind_some, if_pos rfl, er k hk, Option.bind_some, if_neg c0, if_neg c1, if_pos c2, if_pos (by omega)]
      · omega
      · omega
    · refine ⟨W, H, x.set tl.toNat ⟨(rd_T38 x tl).f0, rd [-1, 256] te, (rd_T38 x tl).f2, (rd_T38 x tl).f3⟩, q1 + 1 + 1 + 1, fun k hk => ?_, ?_, ?_, ⟨by omega, by omega, by omega, by omega, by rw [List.length_set]; omega⟩, fun h => absurd h hno⟩
      · simp only [spec_l20Ras.l0]
        rw [w64 (x := W * H) (by omega) (by omega), if_neg (by omega), eo k hk, Option.bind_some, if_pos rfl, er k hk, Option.bind_some, if_neg c0, if_neg c1, if_neg c2, el k hk, Option.bind_some, Option.bind_some, ee k hk, Option.bind_some, if_pos v0, if_pos (by simpa using v1), if_pos y0, if_pos (by omega)]
      · omega
      · omega
theorem ras_l (s : List Int) (hs : Bytes s) (hl : s.length ≤ 2000) (W H : Int) (hW : 1 ≤ W ∧ W ≤ 6) (hH : 1 ≤ H ∧ H ≤ 6) (n : Int) (hn : n ≤ 1000000) : ∀ (t : Nat) (x : List S38) (p a b c d : Int), (x.length : Int) + t = W * H → (∀ q ∈ x, GoodP q) → PixP a b c d → 0 ≤ p → p + 9 * t ≤ 700000 →
    ∃ W' H' l q, (∀ k, t + 2 ≤ k → spec_l20Ras.l0 k n (x.length : Int) s p W H x a b c d = some (W', H', l, q)) ∧ p ≤ q ∧ q ≤ p + 9 * t + 10 ∧ RasD W' H' l ∧ (n ≤ 0 → RasP W' H' l) := by
  have hm := mulB hW hH
  intro t
  induction t with
  | zero =>
    intro x p a b c d hx hg _ h0 h1
    obtain ⟨W', H', l, q, he, h2, h3, h4, h5⟩ := rasEnd s hs hl W H hW hH x (by omega) hg n (x.length : Int) p a b c d (by omega) h0 (by omega) hn
    refine ⟨W', H', l, q, fun k hk => ?_, h2, by omega, h4, h5⟩
    obtain ⟨k, rfl⟩ : ∃ m, k = m + 1 := ⟨k - 1, by omega⟩
    exact he k (by omega)
  | succ t ih =>
    intro x p a b c d hx hg hp h0 h1
    obtain ⟨r, er, r0, r1, _⟩ := pick_ok s hs hl p 3 h0 (by omega)
    by_cases hr : r > 0
    · obtain ⟨a', b', c', d', ep, hp'⟩ := pix_ok s hs hl (p + 1) (by omega) (by omega)
      obtain ⟨W', H', l, q, he, h2, h3, h4, h5⟩ := ih (x ++ [⟨a', b', c', d'⟩]) (p + 1 + 1 + 1 + 1 + 1 + 1 + 1 + 1 + 1) a' b' c' d' (by rw [List.length_append, List.length_singleton]; omega) (fun q hq => by
        rcases List.mem_append.1 hq with hq | hq
        · exact hg q hq
        · rw [List.mem_singleton] at hq; subst hq; exact hp') hp' (by omega) (by omega)
      refine ⟨W', H', l, q, fun k hk => ?_, by omega, by omega, h4, h5⟩
      obtain ⟨k, rfl⟩ : ∃ m, k = m + 1 := ⟨k - 1, by omega⟩
      simp only [spec_l20Ras.l0]
      rw [w64 (x := W * H) (by omega) (by omega), if_pos (by omega), er k (by omega), Option.bind_some, if_pos hr, ep k (by omega), Option.bind_some, if_pos (by omega), w64 (by omega) (by omega)]
      have e := he k (by omega)
      rw [List.length_append, List.length_singleton, Int.natCast_add] at e
      exact e
    · obtain ⟨W', H', l, q, he, h2, h3, h4, h5⟩ := ih (x ++ [⟨a, b, c, d⟩]) (p + 1) a b c d (by rw [List.length_append, List.length_singleton]; omega) (fun q hq => by
        rcases List.mem_append.1 hq with hq | hq
        · exact hg q hq
        · rw [List.mem_singleton] at hq; subst hq; exact hp) hp (by omega) (by omega)
      refine ⟨W', H', l, q, fun k hk => ?_, by omega, by omega, h4, h5⟩
      obtain ⟨k, rfl⟩ : ∃ m, k = m + 1 := ⟨k - 1, by omega⟩
      simp only [spec_l20Ras.l0]
      rw [w64 (x := W * H) (by omega) (by omega), if_pos (by omega), er k (by omega), Option.bind_some, if_neg hr, if_pos (by omega), w64 (by omega) (by omega)]
      have e := he k (by omega)
      rw [List.length_append, List.length_singleton, Int.natCast_add] at e
      exact e
theorem ras_ok (s : List Int) (hs : Bytes s) (hl : s.length ≤ 2000) (p n : Int) (h0 : 0 ≤ p) (h1 : p ≤ 600000) (hn : n ≤ 1000000) :
    ∃ W H l q, (∀ k, 50 ≤ k → spec_l20Ras.f k s p n = some (W, H, l, q)) ∧ p ≤ q ∧ q ≤ p + 500 ∧ RasD W H l ∧ (n ≤ 0 → RasP W H l) := by
  obtain ⟨r1, e1, l1, u1, _⟩ := pick_ok s hs hl p 6 h0 (by omega)
  obtain ⟨r2, e2, l2, u2, _⟩ := pick_ok s hs hl (p + 1) 6 (by omega) (by omega)
  replace u1 := u1 (by omega)
  replace u2 := u2 (by omega)
  obtain ⟨a, b, c, d, ep, hp⟩ := pix_ok s hs hl (p + 1 + 1) (by omega) (by omega)
  have hW : 1 ≤ 1 + r1 ∧ 1 + r1 ≤ 6 := ⟨by omega, by omega⟩
  have hH : 1 ≤ 1 + r2 ∧ 1 + r2 ≤ 6 := ⟨by omega, by omega⟩
  have hm := mulB hW hH
  obtain ⟨t, ht⟩ := Int.eq_ofNat_of_zero_le (show 0 ≤ (1 + r1) * (1 + r2) by omega)
  obtain ⟨W, H, l, q, he, h2, h3, h4, h5⟩ := ras_l s hs hl (1 + r1) (1 + r2) hW hH n hn t [] (p + 1 + 1 + 1 + 1 + 1 + 1 + 1 + 1 + 1 + 1) a b c d (by simp; omega) (fun q hq => by cases hq) hp (by omega) (by omega)
  refine ⟨W, H, l, q, fun k hk => ?_, by omega, by omega, h4, h5⟩
  unfold spec_l20Ras.f
  rw [e1 k (by omega), Option.bind_some, e2 k (by omega), Option.bind_some, ep k (by omega), Option.bind_some, w64 (by omega) (by omega), w64 (by omega) (by omega)]
  exact he k (by omega)
theorem opEnd (s : List Int) (hs : Bytes s) (hl : s.length ≤ 2000) (p n K A B C D : Int) (h0 : 0 ≤ p) (h1 : p ≤ 800000) (hn : n ≤ 1000000) :
    ∃ R : Int × Int × Int × Int × Int × Int, ∀ k, 2 ≤ k → spec_l20Op.j0 k n s p K A B C D = some R := by
  obtain ⟨o, q1, eo, ho0, ho1, hof⟩ := odd_ok s hs hl p n h0 (by omega) hn
  cases o with
  | false =>
    refine ⟨(K, A, B, C, D, q1), fun k hk => ?_⟩
    obtain ⟨k, rfl⟩ : ∃ m, k = m + 1 := ⟨k - 1, by omega⟩
    simp only [spec_l20Op.j0]
    rw [eo k (by omega), Option.bind_some, if_neg (by simp)]
  | true =>
    obtain ⟨r, er, r0, r1, _⟩ := pick_ok s hs hl q1 4 (by omega) (by omega)
    obtain ⟨t, et, t0, t1, _⟩ := pick_ok s hs hl (q1 + 1) 2 (by omega) (by omega)
    replace t1 := t1 (by omega)
    by_cases c0 : r = 0
    · refine ⟨(rd [0, 9] t, A, B, C, D, q1 + 1 + 1), fun k hk => ?_⟩
      obtain ⟨k, rfl⟩ : ∃ m, k = m + 1 := ⟨k - 1, by omega⟩
      simp only [spec_l20Op.j0]
      rw [eo k (by omega), Option.bind_some, if_pos rfl, er k (by omega), Option.bind_some, if_pos c0, Option.bind_some, et k (by omega), Option.bind_some, if_pos t0, if_pos (by simpa using t1)]
    by_cases c1 : r = 1
    · refine ⟨(K, rd [-1, 256] t, B, C, D, q1 + 1 + 1), fun k hk => ?_⟩
      obtain ⟨k, rfl⟩ : ∃ m, k = m + 1 := ⟨k - 1, by omega⟩
      simp only [spec_l20Op.j0]
      rw [eo k (by omega), Option.bind_some, if_pos rfl, er k (by omega), Option.bind_some, if_neg c0, if_pos c1, Option.bind_some, et k (by omega), Option.bind_some, if_pos t0, if_pos (by simpa using t1)]
    by_cases c2 : r = 2
    · refine ⟨(K, A, B, rd [-1, 256] t, D, q1 + 1 + 1), fun k hk => ?_⟩
      obtain ⟨k, rfl⟩ : ∃ m, k = m + 1 := ⟨k - 1, by omega⟩
      simp only [spec_l20Op.j0]
      rw [eo k (by omega), Option.bind_some, if_pos rfl, er k (by omega), Option.bind_some, if_neg c0, if_neg c1, if_pos c2, Option.bind_some, et k (by omega), Option.bind_some, if_pos t0, if_pos (by simpa using t1)]
    · refine ⟨(K, A, B, C, rd [1, 7] t, q1 + 1 + 1), fun k hk => ?_⟩
      obtain ⟨k, rfl⟩ : ∃ m, k = m + 1 := ⟨k - 1, by omega⟩
      simp only [spec_l20Op.j0]
      rw [eo k (by omega), Option.bind_some, if_pos rfl, er k (by omega), Option.bind_some, if_neg c0, if_neg c1, if_neg c2, Option.bind_some, et k (by omega), Option.bind_some, if_pos t0, if_pos (by simpa using t1)]
theorem op_ok (s : List Int) (hs : Bytes s) (hl : s.length ≤ 2000) (p n : Int) (h0 : 0 ≤ p) (h1 : p ≤ 700000) (hn : n ≤ 1000000) :
    ∃ R : Int × Int × Int × Int × Int × Int, ∀ k, 2 ≤ k → spec_l20Op.f k s p n = some R := by
  obtain ⟨r, er, r0, r1, _⟩ := pick_ok s hs hl p 8 h0 (by omega)
  replace r1 := r1 (by omega)
  by_cases c1 : wrap64 (1 + r) = 1
  · obtain ⟨r2, e2, _, _, _⟩ := pick_ok s hs hl (p + 1) 3 (by omega) (by omega)
    obtain ⟨r3, e3, _, _, _⟩ := pick_ok s hs hl (p + 1 + 1) 3 (by omega) (by omega)
    obtain ⟨r4, e4, _, _, _⟩ := pick_ok s hs hl (p + 1 + 1 + 1) 4 (by omega) (by omega)
    obtain ⟨r5, e5, _, _, _⟩ := pick_ok s hs hl (p + 1 + 1 + 1 + 1) 4 (by omega) (by omega)
    obtain ⟨R, hR⟩ := opEnd s hs hl (p + 1 + 1 + 1 + 1 + 1) n 1 r2 r3 (wrap64 (1 + r4)) (wrap64 (1 + r5)) (by omega) (by omega) hn
    refine ⟨R, fun k hk => ?_⟩
    unfold spec_l20Op.f
    rw [er k (by omega), Option.bind_some, if_pos c1, e2 k (by omega), Option.bind_some, e3 k (by omega), Option.bind_some, e4 k (by omega), Option.bind_some, e5 k (by omega), Option.bind_some]
    exact hR k hk
  by_cases c7 : wrap64 (1 + r) = 7
  · obtain ⟨r2, e2, _, _, _⟩ := pick_ok s hs hl (p + 1) 6 (by omega) (by omega)
    obtain ⟨r3, e3, _, _, _⟩ := pick_ok s hs hl (p + 1 + 1) 6 (by omega) (by omega)
    obtain ⟨R, hR⟩ := opEnd s hs hl (p + 1 + 1 + 1) n 7 (wrap64 (1 + r2)) (wrap64 (1 + r3)) 0 0 (by omega) (by omega) hn
    refine ⟨R, fun k hk => ?_⟩
    unfold spec_l20Op.f
    rw [er k (by omega), Option.bind_some, if_neg c1, if_pos c7, e2 k (by omega), Option.bind_some, e3 k (by omega), Option.bind_some]
    exact hR k hk
  by_cases c8 : wrap64 (1 + r) = 8
  · obtain ⟨r2, e2, _, _, _⟩ := pick_ok s hs hl (p + 1) 256 (by omega) (by omega)
    obtain ⟨r3, e3, _, _, _⟩ := pick_ok s hs hl (p + 1 + 1) 256 (by omega) (by omega)
    obtain ⟨r4, e4, _, _, _⟩ := pick_ok s hs hl (p + 1 + 1 + 1) 256 (by omega) (by omega)
    obtain ⟨R, hR⟩ := opEnd s hs hl (p + 1 + 1 + 1 + 1) n 8 r2 r3 r4 0 (by omega) (by omega) hn
    refine ⟨R, fun k hk => ?_⟩
    unfold spec_l20Op.f
    rw [er k (by omega), Option.bind_some, if_neg c1, if_neg c7, if_pos c8, e2 k (by omega), Option.bind_some, e3 k (by omega), Option.bind_some, e4 k (by omega), Option.bind_some]
    exact hR k hk
  · obtain ⟨R, hR⟩ := opEnd s hs hl (p + 1) n (wrap64 (1 + r)) 0 0 0 0 (by omega) (by omega) hn
    refine ⟨R, fun k hk => ?_⟩
    unfold spec_l20Op.f
    rw [er k (by omega), Option.bind_some, if_neg c1, if_neg c7, if_neg c8]
    exact hR k hk
theorem drawOpDo_ok (l : List Int) (hb : Bytes l) : ∃ W H r K A B C D, (∀ k, 60 ≤ k → spec_DrawOpDo.f k l = some (W, H, r, K, A, B, C, D)) ∧ RasD W H r := by
  obtain ⟨s, ho, hs, hl, _⟩ := open_ok l hb
  obtain ⟨W, H, r, q, he, hq0, hq1, hd, _⟩ := ras_ok s hs hl 0 16 (by omega) (by omega) (by omega)
  obtain ⟨⟨K, A, B, C, D, q2⟩, hR⟩ := op_ok s hs hl q 9 (by omega) (by omega) (by omega)
  refine ⟨W, H, r, K, A, B, C, D, fun k hk => ?_, hd⟩
  unfold spec_DrawOpDo.f
  rw [ho, Option.bind_some, he k (by omega), Option.bind_some, hR k (by omega), Option.bind_some]
end Go.Proofs.Ythnmeogafklhnaa.Pl
