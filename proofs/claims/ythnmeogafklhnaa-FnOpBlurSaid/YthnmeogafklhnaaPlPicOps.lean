/- What each operation makes of a picture, by columns and rows. No condition. -/
import Derived.Test.YthnmeogafklhnaaPlPic
import Derived.Test.YthnmeogafklhnaaX0
import Derived.Test.YthnmeogafklhnaaX28
namespace Go.Proofs.Ythnmeogafklhnaa.Pl
open Go Go.RowKit Go.Proofs.Ythnmeogafklhnaa.X Go.Proofs.YthnmeogafklhnaaW.PrintWords Go.Proofs.YthnmeogafklhnaaW.PrintLast Go.Proofs.YthnmeogafklhnaaW.PrintMore
theorem does_of {a b : Pic} {o : S27} (d : Int → Int → S38) (hp : X.OpP o.f0 o.f1 o.f2 o.f3 o.f4) (e : opGo a.w a.h a.l o.f0 o.f1 o.f2 o.f3 o.f4 = ((b.w : Int), (b.h : Int), grid b.w b.h d, true))
    (hd : ∀ x y : Nat, x < b.w → y < b.h → d (x : Int) (y : Int) = b.c (x : Int) (y : Int)) (hok : Ok b) : Does a o b := ⟨hp, by rw [e]; unfold Pic.l; rw [grid_ext hd], hok⟩
theorem plain (K : Int) (h : 2 ≤ K ∧ K ≤ 6) : X.OpP K 0 0 0 0 := Or.inr (Or.inl ⟨h.1, h.2, rfl, rfl, rfl, rfl⟩)
theorem does_mirror {a : Pic} (g : Ok a) : Does a ⟨2, 0, 0, 0, 0⟩ ⟨a.w, a.h, fun x y => a.c ((a.w : Int) - 1 - x) y⟩ := by
  have hh (x : Nat) (hx : x < a.w) : (a.w : Int) - 1 - (x : Int) = ((a.w - 1 - x : Nat) : Int) := by omega
  refine does_of _ (plain 2 (by omega)) (by unfold opGo; rw [if_neg (by decide), if_pos rfl]) (fun x y hx hy => ?_) ⟨g.1, g.2.1, fun x y hx hy => ?_⟩
  · show pix a.w a.l ((a.w : Int) - 1 - (x : Int)) (y : Int) = a.c ((a.w : Int) - 1 - (x : Int)) (y : Int)
    rw [hh x hx]
    exact pix_grid a.w a.h a.c _ y (by have : x < a.w := hx; omega) hy
  · show X.PixG (a.c ((a.w : Int) - 1 - (x : Int)) (y : Int))
    rw [hh x hx]
    exact g.2.2 _ y (by have : x < a.w := hx; omega) hy
theorem does_over {a : Pic} (g : Ok a) : Does a ⟨3, 0, 0, 0, 0⟩ ⟨a.w, a.h, fun x y => a.c x ((a.h : Int) - 1 - y)⟩ := by
  have hh (x : Nat) (hx : x < a.h) : (a.h : Int) - 1 - (x : Int) = ((a.h - 1 - x : Nat) : Int) := by omega
  refine does_of _ (plain 3 (by omega)) (by unfold opGo; rw [if_neg (by decide), if_neg (by decide), if_pos rfl]) (fun x y hx hy => ?_) ⟨g.1, g.2.1, fun x y hx hy => ?_⟩
  · show pix a.w a.l (x : Int) ((a.h : Int) - 1 - (y : Int)) = a.c (x : Int) ((a.h : Int) - 1 - (y : Int))
    rw [hh y hy]
    exact pix_grid a.w a.h a.c x _ hx (by have : y < a.h := hy; omega)
  · show X.PixG (a.c (x : Int) ((a.h : Int) - 1 - (y : Int)))
    rw [hh y hy]
    exact g.2.2 x _ hx (by have : y < a.h := hy; omega)
theorem does_turn {a : Pic} (g : Ok a) : Does a ⟨4, 0, 0, 0, 0⟩ ⟨a.h, a.w, fun x y => a.c y ((a.h : Int) - 1 - x)⟩ := by
  have hh (x : Nat) (hx : x < a.h) : (a.h : Int) - 1 - (x : Int) = ((a.h - 1 - x : Nat) : Int) := by omega
  refine does_of _ (plain 4 (by omega)) (by unfold opGo; rw [if_neg (by decide), if_neg (by decide), if_neg (by decide), if_pos rfl]) (fun x y hx hy => ?_) ⟨g.2.1, g.1, fun x y hx hy => ?_⟩
  · show pix a.w a.l (y : Int) ((a.h : Int) - 1 - (x : Int)) = a.c (y : Int) ((a.h : Int) - 1 - (x : Int))
    rw [hh x hx]
    exact pix_grid a.w a.h a.c y _ hy (by have : x < a.h := hx; omega)
  · show X.PixG (a.c (y : Int) ((a.h : Int) - 1 - (x : Int)))
    rw [hh x hx]
    exact g.2.2 y _ hy (by have : x < a.h := hx; omega)
theorem gray_ok {p : S38} (h : X.PixG p) : X.PixG (grayS p) := by
  obtain ⟨h1, h2, h3, h4⟩ := h
  unfold X.PartG at h1 h2 h3
  refine ⟨?_, ?_, ?_, h4⟩ <;> (unfold X.PartG grayS; dsimp only; omega)
theorem does_gray {a : Pic} (g : Ok a) : Does a ⟨5, 0, 0, 0, 0⟩ ⟨a.w, a.h, fun x y => grayS (a.c x y)⟩ := by
  refine does_of _ (plain 5 (by omega)) (by unfold opGo; rw [if_neg (by decide), if_neg (by decide), if_neg (by decide), if_neg (by decide), if_pos rfl]) (fun x y hx hy => ?_) ⟨g.1, g.2.1, fun x y hx hy => gray_ok (g.2.2 x y hx hy)⟩
  show grayS (pix a.w a.l (x : Int) (y : Int)) = grayS (a.c (x : Int) (y : Int))
  exact congrArg grayS (pix_grid a.w a.h a.c x y hx hy)
theorem over_ok {f a b : Int} (ha : X.PartG a) (hf : X.PartG f) (hb : X.PartG b) : X.PartG (overS a f b) := by
  unfold X.PartG at *
  unfold overS
  have h1 : f * a ≤ 255 * a := Int.mul_le_mul_of_nonneg_right hf.2 ha.1
  have h2 : b * (255 - a) ≤ 255 * (255 - a) := Int.mul_le_mul_of_nonneg_right hb.2 (by omega)
  have h3 : 0 ≤ f * a := Int.mul_nonneg hf.1 ha.1
  have h4 : 0 ≤ b * (255 - a) := Int.mul_nonneg hb.1 (by omega)
  generalize f * a = u at *
  generalize b * (255 - a) = v at *
  omega
theorem flat_ok {A B C : Int} (hA : X.PartG A) (hB : X.PartG B) (hC : X.PartG C) {p : S38} (h : X.PixG p) : X.PixG (flatS A B C p) :=
  ⟨over_ok h.2.2.2 h.1 hA, over_ok h.2.2.2 h.2.1 hB, over_ok h.2.2.2 h.2.2.1 hC, ⟨by show (0 : Int) ≤ 255; omega, by show (255 : Int) ≤ 255; omega⟩⟩
theorem does_flat {a : Pic} (g : Ok a) (A B C : Int) (hA : X.PartG A) (hB : X.PartG B) (hC : X.PartG C) : Does a ⟨8, A, B, C, 0⟩ ⟨a.w, a.h, fun x y => flatS A B C (a.c x y)⟩ := by
  refine does_of _ (Or.inr (Or.inr (Or.inr ⟨rfl, hA.1, hA.2, hB.1, hB.2, hC.1, hC.2, rfl⟩))) (by unfold opGo; dsimp only; rw [if_neg (by decide), if_neg (by decide), if_neg (by decide), if_neg (by decide), if_neg (by decide), if_neg (by decide), if_neg (by decide)]) (fun x y hx hy => ?_) ⟨g.1, g.2.1, fun x y hx hy => flat_ok hA hB hC (g.2.2 x y hx hy)⟩
  show flatS A B C (pix a.w a.l (x : Int) (y : Int)) = flatS A B C (a.c (x : Int) (y : Int))
  exact congrArg (flatS A B C) (pix_grid a.w a.h a.c x y hx hy)
/-- Where a place of the new width stands in the old. -/
def szN (x p w : Nat) : Nat := (2 * x + 1) * w / (2 * p)
theorem sz_cast (x p w : Nat) : (2 * (x : Int) + 1) * (w : Int) / (2 * (p : Int)) = ((szN x p w : Nat) : Int) := by unfold szN; push_cast; rfl
theorem sz_lt {x p w : Nat} (hx : x < p) (hw : 0 < w) : szN x p w < w := by
  unfold szN
  refine Nat.div_lt_of_lt_mul ?_
  exact Nat.mul_lt_mul_of_pos_right (by omega) hw
theorem sz_self {x w : Nat} (hx : x < w) : szN x w w = x := by
  unfold szN
  rw [show (2 * x + 1) * w = w + (2 * w) * x by rw [Nat.add_mul, Nat.one_mul, Nat.mul_right_comm]; omega, Nat.add_mul_div_left _ _ (by omega), Nat.div_eq_of_lt (by omega), Nat.zero_add]
theorem does_size {a : Pic} (g : Ok a) (p q : Nat) (hp : 1 ≤ p) (hp' : p ≤ 6) (hq : 1 ≤ q) (hq' : q ≤ 6) :
    Does a ⟨7, (p : Int), (q : Int), 0, 0⟩ ⟨p, q, fun x y => a.c ((2 * x + 1) * (a.w : Int) / (2 * (p : Int))) ((2 * y + 1) * (a.h : Int) / (2 * (q : Int)))⟩ := by
  have gw := g.1.1
  have gh := g.2.1.1
  refine does_of (fun x y => pix a.w a.l ((2 * x + 1) * (a.w : Int) / (2 * (p : Int))) ((2 * y + 1) * (a.h : Int) / (2 * (q : Int)))) (Or.inr (Or.inr (Or.inl ⟨rfl, by show (1 : Int) ≤ (p : Int); omega, by show (p : Int) ≤ 6; omega, by show (1 : Int) ≤ (q : Int); omega, by show (q : Int) ≤ 6; omega, rfl, rfl⟩))) ?_ (fun x y hx hy => ?_) ⟨⟨hp, hp'⟩, ⟨hq, hq'⟩, fun x y hx hy => ?_⟩
  · unfold opGo
    dsimp only
    rw [if_neg (by decide), if_neg (by decide), if_neg (by decide), if_neg (by decide), if_neg (by decide), if_neg (by decide), if_pos rfl]
    show (((p : Int)), ((q : Int)), grid (p : Int).toNat (q : Int).toNat _, true) = _
    rw [Int.toNat_natCast, Int.toNat_natCast]
  · show pix a.w a.l ((2 * (x : Int) + 1) * (a.w : Int) / (2 * (p : Int))) ((2 * (y : Int) + 1) * (a.h : Int) / (2 * (q : Int))) = a.c ((2 * (x : Int) + 1) * (a.w : Int) / (2 * (p : Int))) ((2 * (y : Int) + 1) * (a.h : Int) / (2 * (q : Int)))
    rw [sz_cast, sz_cast]
    exact pix_grid a.w a.h a.c _ _ (sz_lt hx (by omega)) (sz_lt hy (by omega))
  · show X.PixG (a.c ((2 * (x : Int) + 1) * (a.w : Int) / (2 * (p : Int))) ((2 * (y : Int) + 1) * (a.h : Int) / (2 * (q : Int))))
    rw [sz_cast, sz_cast]
    exact g.2.2 _ _ (sz_lt hx (by omega)) (sz_lt hy (by omega))
theorem c_eq {α : Type} (c : Int → Int → α) {x x' y y' : Int} (hx : x = x') (hy : y = y') : c x y = c x' y' := by rw [hx, hy]
/-- The picture without its spelling. -/
theorem ex_of {a b : Pic} {o : S27} (h : Does a o b) : ∃ b' : Pic, Does a o b' ∧ b'.w = b.w ∧ b'.h = b.h ∧ ∀ x y : Int, b'.c x y = b.c x y := ⟨b, h, rfl, rfl, fun _ _ => rfl⟩
end Go.Proofs.Ythnmeogafklhnaa.Pl
