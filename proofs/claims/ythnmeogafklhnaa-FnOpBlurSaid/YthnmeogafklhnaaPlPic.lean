/- Pictures told by columns and rows: what is read of them, when two are equal, what an operation makes of one. No condition. -/
import Derived.Test.YthnmeogafklhnaaPlOpOkI
import Derived.Test.YthnmeogafklhnaaPlRasAt
import Derived.Test.YthnmeogafklhnaaX0
import Derived.Test.YthnmeogafklhnaaX15
import Derived.Test.YthnmeogafklhnaaX28
import Derived.Test.YthnmeogafklhnaaX44
import Derived.Test.YthnmeogafklhnaaX48
import Derived.Test.YthnmeogafklhnaaX51
namespace Go.Proofs.Ythnmeogafklhnaa.Pl
open Go Go.RowKit Go.Proofs.Ythnmeogafklhnaa.X Go.Proofs.YthnmeogafklhnaaW.PrintWords Go.Proofs.YthnmeogafklhnaaW.PrintLast Go.Proofs.YthnmeogafklhnaaW.PrintMore
theorem grid_len (W H : Nat) (c : Int → Int → S38) : (grid W H c).length = W * H := by simp [grid]
theorem grid_get (W H : Nat) (c : Int → Int → S38) (j : Nat) (h : j < (grid W H c).length) : (grid W H c)[j] = c ((j % W : Nat) : Int) ((j / W : Nat) : Int) := by simp [grid]
theorem rd_grid (W H : Nat) (c : Int → Int → S38) (x y : Nat) (hx : x < W) (hy : y < H) : rd_T38 (grid W H c) ((y : Int) * (W : Int) + (x : Int)) = c (x : Int) (y : Int) := by
  have h0 : y * W + W ≤ W * H := by
    have : (y + 1) * W ≤ H * W := Nat.mul_le_mul_right W hy
    rw [Nat.succ_mul] at this
    rw [Nat.mul_comm W H]; exact this
  have h1 : (y * W + x) % W = x := by rw [Nat.add_comm, Nat.add_mul_mod_self_right, Nat.mod_eq_of_lt hx]
  have h2 : (y * W + x) / W = y := by rw [Nat.add_comm, Nat.add_mul_div_right _ _ (by omega), Nat.div_eq_of_lt hx, Nat.zero_add]
  rw [show (y : Int) * (W : Int) + (x : Int) = ((y * W + x : Nat) : Int) by rw [Int.natCast_add, Int.natCast_mul], rdP (show y * W + x < (grid W H c).length by rw [grid_len]; omega), grid_get, h1, h2]
theorem pix_grid (W H : Nat) (c : Int → Int → S38) (x y : Nat) (hx : x < W) (hy : y < H) : pix W (grid W H c) (x : Int) (y : Int) = c (x : Int) (y : Int) := rd_grid W H c x y hx hy
theorem grid_ext {W H : Nat} {c d : Int → Int → S38} (h : ∀ x y : Nat, x < W → y < H → c (x : Int) (y : Int) = d (x : Int) (y : Int)) : grid W H c = grid W H d := by
  unfold grid
  apply List.map_congr_left
  intro j hj
  rw [List.mem_range] at hj
  have hW : 0 < W := by
    rcases Nat.eq_zero_or_pos W with e | e
    · rw [e, Nat.zero_mul] at hj; omega
    · exact e
  exact h _ _ (Nat.mod_lt _ hW) (Nat.div_lt_of_lt_mul hj)
theorem grid_self {W H : Nat} {l : List S38} (h : l.length = W * H) : grid W H (pix W l) = l := by
  apply List.ext_getElem (by rw [grid_len, h])
  intro j h1 h2
  rw [grid_get]
  unfold pix
  rw [show ((j / W : Nat) : Int) * (W : Int) + ((j % W : Nat) : Int) = ((j / W * W + j % W : Nat) : Int) by rw [Int.natCast_add, Int.natCast_mul], Nat.div_add_mod', rdP h2]
/-- A picture: its width, its height, its colours by column and row. -/
structure Pic where
  w : Nat
  h : Nat
  c : Int → Int → S38
def Pic.l (a : Pic) : List S38 := grid a.w a.h a.c
/-- A picture that may be worked on. -/
def Ok (a : Pic) : Prop := (1 ≤ a.w ∧ a.w ≤ 6) ∧ (1 ≤ a.h ∧ a.h ≤ 6) ∧ ∀ x y : Nat, x < a.w → y < a.h → X.PixG (a.c (x : Int) (y : Int))
theorem pixP_good (p : S38) : X.PixG p ↔ GoodP p := by unfold X.PixG GoodP PixP X.PartG; exact Iff.rfl
theorem mem_grid {W H : Nat} {c : Int → Int → S38} {p : S38} (h : p ∈ grid W H c) : ∃ x y : Nat, x < W ∧ y < H ∧ p = c (x : Int) (y : Int) := by
  unfold grid at h
  obtain ⟨j, hj, rfl⟩ := List.mem_map.1 h
  rw [List.mem_range] at hj
  have hW : 0 < W := by
    rcases Nat.eq_zero_or_pos W with e | e
    · rw [e, Nat.zero_mul] at hj; omega
    · exact e
  exact ⟨_, _, Nat.mod_lt _ hW, Nat.div_lt_of_lt_mul hj, rfl⟩
theorem ok_len {a : Pic} (g : Ok a) : a.l.length = a.w * a.h ∧ 1 ≤ a.l.length ∧ a.l.length ≤ 36 := by
  obtain ⟨h1, h2, _⟩ := g
  have e : a.l.length = a.w * a.h := grid_len _ _ _
  have := mulB (W := (a.w : Int)) (H := (a.h : Int)) ⟨by omega, by omega⟩ ⟨by omega, by omega⟩
  rw [← Int.natCast_mul] at this
  omega
theorem ok_fits {a : Pic} (g : Ok a) : FitsN a.w a.h a.l := by
  refine ⟨g.1.1, g.1.2, g.2.1.1, g.2.1.2, (ok_len g).1, fun p hp => ?_⟩
  obtain ⟨x, y, hx, hy, rfl⟩ := mem_grid hp
  exact g.2.2 x y hx hy
theorem ok_ras {a : Pic} (g : Ok a) : RasP (a.w : Int) (a.h : Int) a.l := by
  obtain ⟨h1, h2, h3⟩ := g
  refine ⟨⟨by omega, by omega⟩, ⟨by omega, by omega⟩, by rw [(ok_len ⟨h1, h2, h3⟩).1, Int.natCast_mul], fun p hp => ?_⟩
  obtain ⟨x, y, hx, hy, rfl⟩ := mem_grid hp
  exact (pixP_good _).1 (h3 x y hx hy)
theorem of_ras {W H : Int} {l : List S38} (h : RasP W H l) : ∃ a : Pic, Ok a ∧ W = (a.w : Int) ∧ H = (a.h : Int) ∧ l = a.l := by
  obtain ⟨h1, h2, h3, h4⟩ := h
  obtain ⟨w, rfl⟩ := Int.eq_ofNat_of_zero_le (show 0 ≤ W by omega)
  obtain ⟨h, rfl⟩ := Int.eq_ofNat_of_zero_le (show 0 ≤ H by omega)
  have hl : l.length = w * h := by rw [← Int.natCast_mul] at h3; omega
  have hs := grid_self hl
  refine ⟨⟨w, h, pix w l⟩, ⟨⟨by show 1 ≤ w; omega, by show w ≤ 6; omega⟩, ⟨by show 1 ≤ h; omega, by show h ≤ 6; omega⟩, fun x y hx hy => ?_⟩, rfl, rfl, hs.symm⟩
  have hy' : y + 1 ≤ h := hy
  have hx' : x < w := hx
  have h0 : y * w + x < l.length := by
    have : (y + 1) * w ≤ h * w := Nat.mul_le_mul_right w hy'
    rw [Nat.succ_mul, Nat.mul_comm h w] at this
    omega
  have e : pix w l (x : Int) (y : Int) = l[y * w + x] := by
    unfold pix
    rw [show (y : Int) * (w : Int) + (x : Int) = ((y * w + x : Nat) : Int) by rw [Int.natCast_add, Int.natCast_mul], rdP h0]
  show X.PixG (pix w l (x : Int) (y : Int))
  rw [e]
  exact (pixP_good _).2 (h4 _ (List.getElem_mem h0))
theorem at_pic {a : Pic} (g : Ok a) (x y : Nat) (hx : x < a.w) (hy : y < a.h) (k : Nat) (hk : 40 ≤ k) :
    impl_RasAt.f k (a.w : Int) (a.h : Int) a.l (x : Int) (y : Int) = some ((a.c x y).f0, (a.c x y).f1, (a.c x y).f2, (a.c x y).f3) := by
  have := ok_len g
  rw [implRasAt_ok _ _ _ _ _ (by omega) k (by omega)]
  unfold atP
  rw [if_pos ⟨ok_ras g, by omega, by omega, by omega, by omega⟩]
  unfold Pic.l
  rw [rd_grid a.w a.h a.c x y hx hy]
theorem rasOk_pic {a : Pic} (g : Ok a) (k : Nat) (hk : 40 ≤ k) : impl_RasOk.f k (a.w : Int) (a.h : Int) a.l = some true := by
  have := ok_len g
  rw [implRasOk_ok _ _ _ (by omega) k (by omega), decide_eq_true (ok_ras g)]
theorem eaRas_pic {a b : Pic} (g : Ok a) (hw : a.w = b.w) (hh : a.h = b.h) (hc : ∀ x y : Nat, x < a.w → y < a.h → a.c (x : Int) (y : Int) = b.c (x : Int) (y : Int)) (k : Nat) (hk : 40 ≤ k) :
    laws_eaRas.f k (a.w : Int) (a.h : Int) a.l (b.w : Int) (b.h : Int) b.l = some true := by
  have hl := ok_len g
  have e : b.l = a.l := by unfold Pic.l; rw [← hw, ← hh]; exact (grid_ext hc).symm
  rw [e, ← hw, ← hh]
  exact eaRas_self _ _ _ (by omega) k (by omega)
theorem opQ_iff (q a b c d : Int) : OpQ q a b c d ↔ X.OpP q a b c d := by
  unfold OpQ X.OpP
  constructor
  · rintro (⟨h, ⟨a0, a1⟩, ⟨b0, b1⟩, ⟨c0, c1⟩, ⟨d0, d1⟩⟩ | ⟨⟨h0, h1⟩, a0, b0, c0, d0⟩ | ⟨h, ⟨a0, a1⟩, ⟨b0, b1⟩, c0, d0⟩ | ⟨h, ⟨a0, a1⟩, ⟨b0, b1⟩, ⟨c0, c1⟩, d0⟩)
    · exact Or.inl ⟨h, a0, a1, b0, b1, c0, c1, d0, d1⟩
    · exact Or.inr (Or.inl ⟨h0, h1, a0, b0, c0, d0⟩)
    · exact Or.inr (Or.inr (Or.inl ⟨h, a0, a1, b0, b1, c0, d0⟩))
    · exact Or.inr (Or.inr (Or.inr ⟨h, a0, a1, b0, b1, c0, c1, d0⟩))
  · rintro (⟨h, a0, a1, b0, b1, c0, c1, d0, d1⟩ | ⟨h0, h1, a0, b0, c0, d0⟩ | ⟨h, a0, a1, b0, b1, c0, d0⟩ | ⟨h, a0, a1, b0, b1, c0, c1, d0⟩)
    · exact Or.inl ⟨h, ⟨a0, a1⟩, ⟨b0, b1⟩, ⟨c0, c1⟩, ⟨d0, d1⟩⟩
    · exact Or.inr (Or.inl ⟨⟨h0, h1⟩, a0, b0, c0, d0⟩)
    · exact Or.inr (Or.inr (Or.inl ⟨h, ⟨a0, a1⟩, ⟨b0, b1⟩, c0, d0⟩))
    · exact Or.inr (Or.inr (Or.inr ⟨h, ⟨a0, a1⟩, ⟨b0, b1⟩, ⟨c0, c1⟩, d0⟩))
/-- One operation makes this picture of that one. -/
def Does (a : Pic) (o : S27) (b : Pic) : Prop := X.OpP o.f0 o.f1 o.f2 o.f3 o.f4 ∧ opGo a.w a.h a.l o.f0 o.f1 o.f2 o.f3 o.f4 = ((b.w : Int), (b.h : Int), b.l, true) ∧ Ok b
theorem opDo_ok {a b : Pic} {o : S27} (g : Ok a) (h : Does a o b) (k : Nat) (hk : 40 ≤ k) : impl_OpDo.f k (a.w : Int) (a.h : Int) a.l o.f0 o.f1 o.f2 o.f3 o.f4 = some ((b.w : Int), (b.h : Int), b.l, true) := by
  unfold impl_OpDo.f
  rw [rasOk_pic g k hk, Option.bind_some, if_pos rfl, implOpOk_ok _ _ _ _ _ k (by omega), Option.bind_some, if_pos (decide_eq_true ((opQ_iff _ _ _ _ _).2 h.1)), Int.toNat_natCast, Int.toNat_natCast, if_pos ⟨by omega, by omega, ok_fits g, h.1⟩, h.2.1]
/-- Operations one after another. -/
inductive Run : Pic → List S27 → Pic → Prop
  | nil (a : Pic) : Run a [] a
  | cons {a b c : Pic} {o : S27} {os : List S27} : Does a o b → Run b os c → Run a (o :: os) c
theorem Run.one {a b : Pic} {o : S27} (h : Does a o b) : Run a [o] b := .cons h (.nil b)
theorem Run.ok {a b : Pic} {os : List S27} (h : Run a os b) (g : Ok a) : Ok b := by
  induction h with
  | nil => exact g
  | cons h _ ih => exact ih h.2.2
theorem rdO {xs : List S27} {i : Nat} (h : i < xs.length) : rd_T27 xs (i : Int) = xs[i] := by
  unfold rd_T27
  rw [Int.toNat_natCast, List.getD_eq_getElem?_getD, List.getElem?_eq_getElem h]; rfl
theorem eaDo_l (os : List S27) (hl : os.length ≤ 1000) (b : Pic) : ∀ (d i k : Nat) (a : Pic), i + d = os.length → d + 40 < k → Ok a → Run a (os.drop i) b →
    laws_eaDo.l0 k os (i : Int) (a.w : Int) (a.h : Int) a.l = some ((b.w : Int), (b.h : Int), b.l) := by
  intro d
  induction d with
  | zero =>
    intro i k a hi hk _ hr
    obtain ⟨k, rfl⟩ : ∃ m, k = m + 1 := ⟨k - 1, by omega⟩
    rw [List.drop_of_length_le (by omega)] at hr
    cases hr
    simp only [laws_eaDo.l0]
    rw [if_neg (by omega)]
  | succ d ih =>
    intro i k a hi hk g hr
    obtain ⟨k, rfl⟩ : ∃ m, k = m + 1 := ⟨k - 1, by omega⟩
    have hil : i < os.length := by omega
    rw [List.drop_eq_getElem_cons hil] at hr
    cases hr with
    | cons h hr =>
      simp only [laws_eaDo.l0]
      rw [if_pos (by omega), if_pos (by omega), rdO hil, opDo_ok g h k (by omega), Option.bind_some, w64 (by omega) (by omega)]
      exact ih (i + 1) k _ (by omega) (by omega) h.2.2 hr
theorem eaDo_ok {a b : Pic} {os : List S27} (g : Ok a) (h : Run a os b) (hl : os.length ≤ 1000) (k : Nat) (hk : os.length + 41 ≤ k) :
    laws_eaDo.f k (a.w : Int) (a.h : Int) a.l os = some ((b.w : Int), (b.h : Int), b.l) :=
  eaDo_l os hl b os.length 0 k a (by omega) (by omega) g h
/- The operations, each for itself. -/
theorem does_crop {a : Pic} (g : Ok a) (x0 y0 cw ch : Nat) (hw : 1 ≤ cw) (hh : 1 ≤ ch) (hx : x0 + cw ≤ a.w) (hy : y0 + ch ≤ a.h) :
    Does a ⟨1, (x0 : Int), (y0 : Int), (cw : Int), (ch : Int)⟩ ⟨cw, ch, fun x y => a.c ((x0 : Int) + x) ((y0 : Int) + y)⟩ := by
  obtain ⟨g1, g2, g3⟩ := g
  refine ⟨Or.inl ⟨rfl, by show (0 : Int) ≤ (x0 : Int); omega, by show (x0 : Int) ≤ 5; omega, by show (0 : Int) ≤ (y0 : Int); omega, by show (y0 : Int) ≤ 5; omega, by show 1 ≤ (cw : Int); omega, by show (cw : Int) ≤ 6; omega, by show 1 ≤ (ch : Int); omega, by show (ch : Int) ≤ 6; omega⟩, ?_, ⟨⟨hw, by show cw ≤ 6; omega⟩, ⟨hh, by show ch ≤ 6; omega⟩, fun x y hx' hy' => ?_⟩⟩
  · unfold opGo
    rw [if_pos rfl, if_neg (show ¬ ((a.w : Int) < (x0 : Int) + (cw : Int) ∨ (a.h : Int) < (y0 : Int) + (ch : Int)) by omega), Int.toNat_natCast, Int.toNat_natCast]
    congr 3
    refine grid_ext (W := cw) (H := ch) fun x y hx' hy' => ?_
    show pix a.w a.l ((x0 : Int) + (x : Int)) ((y0 : Int) + (y : Int)) = a.c ((x0 : Int) + (x : Int)) ((y0 : Int) + (y : Int))
    rw [← Int.natCast_add, ← Int.natCast_add]
    exact pix_grid a.w a.h a.c (x0 + x) (y0 + y) (by omega) (by omega)
  · show X.PixG (a.c ((x0 : Int) + (x : Int)) ((y0 : Int) + (y : Int)))
    rw [← Int.natCast_add, ← Int.natCast_add]
    have h1 : x < cw := hx'
    have h2 : y < ch := hy'
    exact g3 _ _ (by omega) (by omega)
end Go.Proofs.Ythnmeogafklhnaa.Pl
