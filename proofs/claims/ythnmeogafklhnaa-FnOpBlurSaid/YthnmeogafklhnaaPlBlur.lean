/- What blurring makes of a picture, by columns and rows. No condition. -/
import Derived.Test.YthnmeogafklhnaaPlPicOps
import Derived.Test.YthnmeogafklhnaaX0
namespace Go.Proofs.Ythnmeogafklhnaa.Pl
open Go Go.RowKit Go.Proofs.Ythnmeogafklhnaa.X Go.Proofs.YthnmeogafklhnaaW.PrintWords Go.Proofs.YthnmeogafklhnaaW.PrintLast Go.Proofs.YthnmeogafklhnaaW.PrintMore
theorem sumS_congr {f g : Nat → Int} : ∀ n : Nat, (∀ i, i < n → f i = g i) → X.sumS f n = X.sumS g n
  | 0, _ => rfl
  | n + 1, h => by
    simp only [X.sumS]
    rw [sumS_congr n fun i hi => h i (by omega), h n (by omega)]
theorem totS_congr {F G : Nat → Nat → Int} {x0 y0 x1 y1 nx m : Nat} (h : ∀ c r, c < nx → r < m → F (x0 + c) (y0 + r) = G (x1 + c) (y1 + r)) : X.totS F x0 y0 nx m = X.totS G x1 y1 nx m := by
  unfold X.totS
  exact sumS_congr m fun r hr => sumS_congr nx fun c hc => h c r hc hr
theorem sumS_between {f : Nat → Int} {lo hi : Int} : ∀ n : Nat, (∀ i, i < n → lo ≤ f i ∧ f i ≤ hi) → lo * (n : Int) ≤ X.sumS f n ∧ X.sumS f n ≤ hi * (n : Int)
  | 0, _ => ⟨by simp [X.sumS], by simp [X.sumS]⟩
  | n + 1, h => by
    have h1 := sumS_between n fun i hi' => h i (by omega)
    have h2 := h n (by omega)
    simp only [X.sumS]
    rw [Int.natCast_add, Int.mul_add, Int.mul_add, show ((1 : Nat) : Int) = 1 from rfl, Int.mul_one, Int.mul_one]
    generalize lo * (n : Int) = u at *
    generalize hi * (n : Int) = v at *
    omega
theorem totS_between {F : Nat → Nat → Int} {lo hi : Int} {x0 y0 nx m : Nat} (h : ∀ c r, c < nx → r < m → lo ≤ F (x0 + c) (y0 + r) ∧ F (x0 + c) (y0 + r) ≤ hi) :
    lo * (nx : Int) * (m : Int) ≤ X.totS F x0 y0 nx m ∧ X.totS F x0 y0 nx m ≤ hi * (nx : Int) * (m : Int) := by
  unfold X.totS
  exact sumS_between m fun r hr => sumS_between nx fun c hc => h c r hc hr
theorem about_pos {x W : Nat} (h : x < W) : 1 ≤ X.aboutN x W := by unfold X.aboutN; omega
theorem about_in {x W c : Nat} (h : x < W) (hc : c < X.aboutN x W) : x - 1 + c < W ∧ x - 1 + c ≤ x + 1 := by unfold X.aboutN at hc; omega
/-- The mean of one part of the colours about a place. -/
def meanS (p : S38 → Int) (a : Pic) (x y : Nat) : Int := X.totS (fun i j => p (a.c (i : Int) (j : Int))) (x - 1) (y - 1) (X.aboutN x a.w) (X.aboutN y a.h) / ((X.aboutN y a.h * X.aboutN x a.w : Nat) : Int)
def blurC (a : Pic) (x y : Int) : S38 := ⟨meanS S38.f0 a x.toNat y.toNat, meanS S38.f1 a x.toNat y.toNat, meanS S38.f2 a x.toNat y.toNat, meanS S38.f3 a x.toNat y.toNat⟩
theorem mean_between {p : S38 → Int} {a : Pic} {x y : Nat} (hx : x < a.w) (hy : y < a.h) {lo hi : Int} (h : ∀ i j : Nat, i < a.w → j < a.h → x - 1 ≤ i → i ≤ x + 1 → y - 1 ≤ j → j ≤ y + 1 → lo ≤ p (a.c (i : Int) (j : Int)) ∧ p (a.c (i : Int) (j : Int)) ≤ hi) :
    lo ≤ meanS p a x y ∧ meanS p a x y ≤ hi := by
  have h1 := totS_between (F := fun i j => p (a.c (i : Int) (j : Int))) (lo := lo) (hi := hi) (x0 := x - 1) (y0 := y - 1) (nx := X.aboutN x a.w) (m := X.aboutN y a.h) fun _ _ hc hr => h _ _ (about_in hx hc).1 (about_in hy hr).1 (Nat.le_add_right _ _) (about_in hx hc).2 (Nat.le_add_right _ _) (about_in hy hr).2
  have hp : 0 < X.aboutN y a.h * X.aboutN x a.w := Nat.mul_pos (about_pos hy) (about_pos hx)
  rw [Int.mul_assoc, Int.mul_assoc, Int.mul_comm (X.aboutN x a.w : Int), ← Int.natCast_mul] at h1
  unfold meanS
  generalize X.aboutN y a.h * X.aboutN x a.w = n at *
  have hn : (0 : Int) < (n : Int) := by omega
  refine ⟨Int.le_ediv_of_mul_le hn h1.1, ?_⟩
  have h2 : X.totS (fun i j => p (a.c (i : Int) (j : Int))) (x - 1) (y - 1) (X.aboutN x a.w) (X.aboutN y a.h) / (n : Int) < hi + 1 := Int.ediv_lt_of_lt_mul hn (by rw [Int.add_mul, Int.one_mul]; exact Int.lt_of_le_of_lt h1.2 (Int.lt_add_of_pos_right _ hn))
  exact Int.le_of_lt_add_one h2
theorem blur_pixG {a : Pic} (g : Ok a) {x y : Nat} (hx : x < a.w) (hy : y < a.h) : X.PixG (blurC a (x : Int) (y : Int)) := by
  unfold blurC
  rw [Int.toNat_natCast, Int.toNat_natCast]
  exact ⟨mean_between hx hy fun i j hi hj _ _ _ _ => (g.2.2 i j hi hj).1, mean_between hx hy fun i j hi hj _ _ _ _ => (g.2.2 i j hi hj).2.1, mean_between hx hy fun i j hi hj _ _ _ _ => (g.2.2 i j hi hj).2.2.1, mean_between hx hy fun i j hi hj _ _ _ _ => (g.2.2 i j hi hj).2.2.2⟩
theorem field_tot (p : S38 → Int) (a : Pic) {x y : Nat} (hx : x < a.w) (hy : y < a.h) : X.totS (X.fieldS a.w a.l p) (x - 1) (y - 1) (X.aboutN x a.w) (X.aboutN y a.h) = X.totS (fun i j => p (a.c (i : Int) (j : Int))) (x - 1) (y - 1) (X.aboutN x a.w) (X.aboutN y a.h) :=
  totS_congr fun _ _ hc hr => congrArg p (pix_grid a.w a.h a.c _ _ (about_in hx hc).1 (about_in hy hr).1)
theorem blurS_c (a : Pic) {x y : Nat} (hx : x < a.w) (hy : y < a.h) : X.blurS a.w a.h a.l (x : Int) (y : Int) = blurC a (x : Int) (y : Int) := by
  unfold X.blurS blurC meanS
  rw [Int.toNat_natCast, Int.toNat_natCast, field_tot S38.f0 a hx hy, field_tot S38.f1 a hx hy, field_tot S38.f2 a hx hy, field_tot S38.f3 a hx hy]
theorem does_blur {a : Pic} (g : Ok a) : Does a ⟨6, 0, 0, 0, 0⟩ ⟨a.w, a.h, blurC a⟩ := by
  refine does_of (X.blurS a.w a.h a.l) (plain 6 (by omega)) (by unfold X.opGo; rw [if_neg (by decide), if_neg (by decide), if_neg (by decide), if_neg (by decide), if_neg (by decide), if_pos rfl]) (fun x y hx hy => blurS_c a hx hy) ⟨g.1, g.2.1, fun x y hx hy => blur_pixG g hx hy⟩
/-- Two means are one where the same colours lie about. -/
theorem mean_eq {p : S38 → Int} {a b : Pic} {x y u v : Nat} (hw : X.aboutN x a.w = X.aboutN u b.w) (hh : X.aboutN y a.h = X.aboutN v b.h) (hc : ∀ c r, c < X.aboutN x a.w → r < X.aboutN y a.h → a.c ((x - 1 + c : Nat) : Int) ((y - 1 + r : Nat) : Int) = b.c ((u - 1 + c : Nat) : Int) ((v - 1 + r : Nat) : Int)) :
    meanS p a x y = meanS p b u v := by
  have h := totS_congr (F := fun i j => p (a.c (i : Int) (j : Int))) (G := fun i j => p (b.c (i : Int) (j : Int))) (x0 := x - 1) (y0 := y - 1) (x1 := u - 1) (y1 := v - 1) (nx := X.aboutN x a.w) (m := X.aboutN y a.h) fun c r h1 h2 => congrArg p (hc c r h1 h2)
  unfold meanS
  rw [h, hw, hh]
theorem blurC_eq {a b : Pic} {x y u v : Nat} (hw : X.aboutN x a.w = X.aboutN u b.w) (hh : X.aboutN y a.h = X.aboutN v b.h) (hc : ∀ c r, c < X.aboutN x a.w → r < X.aboutN y a.h → a.c ((x - 1 + c : Nat) : Int) ((y - 1 + r : Nat) : Int) = b.c ((u - 1 + c : Nat) : Int) ((v - 1 + r : Nat) : Int)) :
    blurC a (x : Int) (y : Int) = blurC b (u : Int) (v : Int) := by
  unfold blurC
  simp only [Int.toNat_natCast]
  rw [mean_eq (p := S38.f0) hw hh hc, mean_eq (p := S38.f1) hw hh hc, mean_eq (p := S38.f2) hw hh hc, mean_eq (p := S38.f3) hw hh hc]
end Go.Proofs.Ythnmeogafklhnaa.Pl
