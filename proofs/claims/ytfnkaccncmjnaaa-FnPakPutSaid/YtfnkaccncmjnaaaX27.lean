/- What functions of the program come to, each with its proof. No condition but what each theorem states. -/
import Derived.Test.YtfnkaccncmjnaaaX0
namespace Go.Proofs.Ytfnkaccncmjnaaa.X
open Go.RowKit Go.Proofs.YtfnkaccncmjnaaaW.PrintWords Go.Proofs.YtfnkaccncmjnaaaW.PrintLast Go.Proofs.YtfnkaccncmjnaaaW.PrintMore Go.Proofs.Ytfnkaccncmjnaaa.Hyb
attribute [local go_sem] max2_int min2_int max_two min_two max_three min_three max_four min_four
set_option linter.unusedVariables false
set_option linter.unusedSimpArgs false

/-- A state of type 61 at block g of W; what its slices lead to came in by w0. -/
def IsS61 (w0 W : World) (g : Nat) (f0 : List Int) (f1 : Int) (f2 : Bool) : Prop := ∃ A0 c0, W.heap[g]? = some (.cells #[.slice A0 f0.length c0, .int .i64 f1, .bool f2] 61 (0, 0)) ∧ w0.heap.size ≤ g ∧ Kd.C (Kd.int .u8) w0 A0 f0.length f0
theorem IsS61.grown {w0 W : World} {g : Nat} {f0 : List Int} {f1 : Int} {f2 : Bool} {W1 : World} {row : Option Nat} (h : IsS61 w0 W g f0 f1 f2) (hw : W.grownBy W1 row) (hne : some g ≠ row) : IsS61 w0 W1 g f0 f1 f2 := by
 obtain ⟨A0, c0, hb, hg, hr0⟩ := h
 exact ⟨A0, c0, blk_grown hb hw hne, hg, hr0⟩
theorem IsS61.grownF {w0 W : World} {g : Nat} {f0 : List Int} {f1 : Int} {f2 : Bool}  {W0 W1 : World} {row : Option Nat} (_h0 : IsS61 w0 W0 g f0 f1 f2) (h : IsS61 w0 W g f0 f1 f2) (hw : W.grownBy W1 row) (hne : some g ≠ row) : IsS61 w0 W1 g f0 f1 f2 := h.grown hw hne
theorem IsS61.own_neN {w0 W : World} {g : Nat} {f0 : List Int} {f1 : Int} {f2 : Bool} {α : Type} {d : Kd α} {e : Nat} {base : Nat} {ok : Nat → Prop} {v : Value} {xs : List α} (h : IsS61 w0 W g f0 f1 f2) (ho : Kd.N d e W base ok v xs) (ht : e ≠ 61) : some g ≠ v.ownBlock := by
 obtain ⟨A0, c0, hb, hg, hr0⟩ := h
 exact Kd.N_ne ho hb ht
theorem IsS61.fresh {w0 W : World} {g : Nat} {f0 : List Int} {f1 : Int} {f2 : Bool} (h : IsS61 w0 W g f0 f1 f2) : ∀ k, W.heap.size ≤ k → k ≠ g := by
 obtain ⟨A0, c0, hb, hg, hr0⟩ := h
 exact Kd.freshB hb
theorem IsS61.kept {w0 W : World} {g : Nat} {f0 : List Int} {f1 : Int} {f2 : Bool} {W1 : World} {S : Nat → Prop} (h : IsS61 w0 W g f0 f1 f2) (hk : Kept W W1 S) (hne : ¬ S g) : IsS61 w0 W1 g f0 f1 f2 := by
 obtain ⟨A0, c0, hb, hg, hr0⟩ := h
 exact ⟨A0, c0, blk_kept hb hk hne, hg, hr0⟩
theorem IsS61.below {w0 W : World} {g : Nat} {f0 : List Int} {f1 : Int} {f2 : Bool} {W1 : World} (h : IsS61 w0 W g f0 f1 f2) (hw : Below W.heap.size W W1) : IsS61 w0 W1 g f0 f1 f2 := h.grown (grown_of_below hw none) (by simp)
theorem IsS61.alloc {w0 W : World} {g : Nat} {f0 : List Int} {f1 : Int} {f2 : Bool} (h : IsS61 w0 W g f0 f1 f2) (o : Obj) : IsS61 w0 (W.alloc o) g f0 f1 f2 := h.below (below_alloc (Below.refl _ _) o)
theorem IsS61.drewN {w0 W : World} {g : Nat} {f0 : List Int} {f1 : Int} {f2 : Bool} (h : IsS61 w0 W g f0 f1 f2) (m : Nat) : IsS61 w0 (W.drewN m) g f0 f1 f2 := h
theorem IsS61.drew {w0 W : World} {g : Nat} {f0 : List Int} {f1 : Int} {f2 : Bool} (h : IsS61 w0 W g f0 f1 f2) : IsS61 w0 W.drew g f0 f1 f2 := h
theorem IsS61.at_ {w0 W : World} {g : Nat} {f0 : List Int} {f1 : Int} {f2 : Bool} {w' : World} {m : Nat} (hq : W.drewN m = w') (h : IsS61 w0 W g f0 f1 f2) : IsS61 w0 w' g f0 f1 f2 := by subst hq; exact IsS61.drewN h m
theorem IsS61.apart {w0 W : World} {g : Nat} {f0 : List Int} {f1 : Int} {f2 : Bool} {α : Type} {d : Kd α} {e : Nat} {base : Nat} {ok : Nat → Prop} {v : Value} {xs : List α} (h : IsS61 w0 W g f0 f1 f2) (ho : d.R e W base ok v xs) (ht : ∀ q, q ∈ e :: d.E → q ≠ 61) : d.R e W base (fun k => ok k ∧ k ≠ g) v xs := by
 obtain ⟨A0, c0, hb, hg, hr0⟩ := h
 exact Kd.R_types ho hb ht
theorem IsS61.own_ne {w0 W : World} {g : Nat} {f0 : List Int} {f1 : Int} {f2 : Bool} {α : Type} {d : Kd α} {e : Nat} {base : Nat} {ok : Nat → Prop} {v : Value} {xs : List α} (h : IsS61 w0 W g f0 f1 f2) (ho : d.R e W base ok v xs) (ht : e ≠ 61) : some g ≠ v.ownBlock := by
 obtain ⟨A0, c0, hb, hg, hr0⟩ := h
 exact Kd.R_ne ho hb ht
theorem IsS61.apartQ {w0 W : World} {g : Nat} {f0 : List Int} {f1 : Int} {f2 : Bool} {α : Type} {d : Kd α} {e : Nat} {base : Nat} {ok : Nat → Prop} {v : Value} {xs : List α} (h : IsS61 w0 W g f0 f1 f2) (ho : d.Q e W base ok v xs) (ht : ∀ q, q ∈ e :: d.E → q ≠ 61) : d.Q e W base (fun k => ok k ∧ k ≠ g) v xs := by
 obtain ⟨A0, c0, hb, hg, hr0⟩ := h
 exact Kd.Q_types ho hb ht
theorem IsS61.own_neQ {w0 W : World} {g : Nat} {f0 : List Int} {f1 : Int} {f2 : Bool} {α : Type} {d : Kd α} {e : Nat} {base : Nat} {ok : Nat → Prop} {v : Value} {xs : List α} (h : IsS61 w0 W g f0 f1 f2) (ho : d.Q e W base ok v xs) (ht : e ≠ 61) : some g ≠ v.ownBlock := by
 obtain ⟨A0, c0, hb, hg, hr0⟩ := h
 exact Kd.Q_ne ho hb ht
theorem IsS61.apartS {w0 W : World} {g : Nat} {f0 : List Int} {f1 : Int} {f2 : Bool} {α : Type} {d : Kd α} {e : Nat} {base : Nat} {ok : Nat → Prop} {v : Value} {xs : List α} (h : IsS61 w0 W g f0 f1 f2) (ho : d.S e W base ok v xs) (ht : ∀ q, q ∈ e :: d.E → q ≠ 61) : d.S e W base (fun k => ok k ∧ k ≠ g) v xs := by
 obtain ⟨A0, c0, hb, hg, hr0⟩ := h
 exact Kd.S_types ho hb ht
theorem IsS61.own_neS {w0 W : World} {g : Nat} {f0 : List Int} {f1 : Int} {f2 : Bool} {α : Type} {d : Kd α} {e : Nat} {base : Nat} {ok : Nat → Prop} {v : Value} {xs : List α} (h : IsS61 w0 W g f0 f1 f2) (ho : d.S e W base ok v xs) (ht : e ≠ 61) : some g ≠ v.ownBlock := by
 obtain ⟨A0, c0, hb, hg, hr0⟩ := h
 exact Kd.S_ne ho hb ht
theorem IsS61.lt {w0 W : World} {g : Nat} {f0 : List Int} {f1 : Int} {f2 : Bool} (h : IsS61 w0 W g f0 f1 f2) : g < W.heap.size := by
 obtain ⟨A0, c0, hb, hg, hr0⟩ := h
 exact blk_lt hb
theorem IsS61.ge {w0 W : World} {g : Nat} {f0 : List Int} {f1 : Int} {f2 : Bool} (h : IsS61 w0 W g f0 f1 f2) : w0.heap.size ≤ g := by
 obtain ⟨A0, c0, hb, hg, hr0⟩ := h
 exact hg
theorem IsS61.ne_blk {w0 W : World} {g : Nat} {f0 : List Int} {f1 : Int} {f2 : Bool} {a : Nat} {cs : Array Value} {t : TypeId} {fr : Nat × Nat} (h : IsS61 w0 W g f0 f1 f2) (hb2 : W.heap[a]? = some (.cells cs t fr)) (ht : t ≠ 61) : g ≠ a := by
 obtain ⟨A0, c0, hb, hg, hr0⟩ := h
 rintro rfl
 rw [hb] at hb2
 injection hb2 with hb2
 injection hb2 with _ ht2
 exact ht ht2.symm
theorem IsS61.far {w0 W : World} {g : Nat} {f0 : List Int} {f1 : Int} {f2 : Bool} {p : Addr} (h : IsS61 w0 W g f0 f1 f2) (hne : g ≠ p.block) (u : Value) : IsS61 w0 (W.setCell p u) g f0 f1 f2 := by
 obtain ⟨A0, c0, hb, hg, hr0⟩ := h
 exact ⟨A0, c0, blk_far hb hne u, hg, hr0⟩
theorem cellS61_0 {W : World} {g : Nat} {A0 : Option Addr} {c0 : Nat} {f0 : List Int} {f1 : Int} {f2 : Bool} (h : W.heap[g]? = some (.cells #[.slice A0 f0.length c0, .int .i64 f1, .bool f2] 61 (0, 0))) : W.cell? ⟨g, 0, none⟩ = some (.slice A0 f0.length c0) := (blk_cell h 0).trans rfl
theorem cellS61_1 {W : World} {g : Nat} {A0 : Option Addr} {c0 : Nat} {f0 : List Int} {f1 : Int} {f2 : Bool} (h : W.heap[g]? = some (.cells #[.slice A0 f0.length c0, .int .i64 f1, .bool f2] 61 (0, 0))) : W.cell? ⟨g, 1, none⟩ = some (.int .i64 f1) := (blk_cell h 1).trans rfl
theorem IsS61.set_1 {w0 W : World} {g : Nat} {f0 : List Int} {f1 : Int} {f2 : Bool} (h : IsS61 w0 W g f0 f1 f2) (x : Int) : IsS61 w0 (W.setCell ⟨g, 1, none⟩ (.int .i64 x)) g f0 x f2 := by
 obtain ⟨A0, c0, hb, hg, hr0⟩ := h
 exact ⟨A0, c0, by simpa using blk_set hb 1 (.int .i64 x), hg, hr0⟩
theorem cellS61_2 {W : World} {g : Nat} {A0 : Option Addr} {c0 : Nat} {f0 : List Int} {f1 : Int} {f2 : Bool} (h : W.heap[g]? = some (.cells #[.slice A0 f0.length c0, .int .i64 f1, .bool f2] 61 (0, 0))) : W.cell? ⟨g, 2, none⟩ = some (.bool f2) := (blk_cell h 2).trans rfl
theorem IsS61.set_2 {w0 W : World} {g : Nat} {f0 : List Int} {f1 : Int} {f2 : Bool} (h : IsS61 w0 W g f0 f1 f2) (x : Bool) : IsS61 w0 (W.setCell ⟨g, 2, none⟩ (.bool x)) g f0 f1 x := by
 obtain ⟨A0, c0, hb, hg, hr0⟩ := h
 exact ⟨A0, c0, by simpa using blk_set hb 2 (.bool x), hg, hr0⟩
theorem IsS61.new (w0 W : World) (A0 : Option Addr) (c0 : Nat) (f0 : List Int) (f1 : Int) (f2 : Bool) (hB : Below w0.heap.size w0 W) (hr0 : Kd.C (Kd.int .u8) w0 A0 f0.length f0) : IsS61 w0 (W.alloc (.cells #[.slice A0 f0.length c0, .int .i64 f1, .bool f2] 61)) W.heap.size f0 f1 f2 := ⟨A0, c0, by simpa using heap_alloc_new W _, hB.size, hr0⟩

theorem oI61 {P Q : Prop} (q : Aside0 Q) (h : Q → P := by intro q_; repeat (first | (with_reducible first | exact q_ | apply IsS61.alloc | apply IsS61.drewN | apply IsS61.drew | apply IsS61.set_1 | apply IsS61.set_2 | refine IsS61.far ?_ (Aside0.out (by assumption)) _) | exact q_)) : P := h q.out
/-! ### impl_bitReader_get: function 45 -/
mutual
def impl_bitReader_get.j0 : Nat → Int → Bool → List Int → Int → Bool → Option (Int × Int × Bool)
 | 0, _, _, _, _, _ => none
 | k + 1, x1, x40, x1000, x1001, x1002 => if x40 = true then (some (0, x1001, true)) else (impl_bitReader_get.l0 k 0 x1 0 x1000 x1001 x1002)
def impl_bitReader_get.l0 : Nat → Int → Int → Int → List Int → Int → Bool → Option (Int × Int × Bool)
 | 0, _, _, _, _, _, _ => none
 | k + 1, x5, x44, x45, x1000, x1001, x1002 => if x45 < x44 then (if 0 ≤ (wrap64 (Int.tdiv x1001 8)) then (if (wrap64 (Int.tdiv x1001 8)) < (x1000.length : Int) then (if 0 ≤ (Int.tmod x1001 8) then (if 0 ≤ x45 then (impl_bitReader_get.l0 k (Go.bits .or .i64 x5 (shl .i64 (wrap64 (Go.bits .and .u8 (shr .u8 (rd x1000 (wrap64 (Int.tdiv x1001 8))) (Int.tmod x1001 8)) 1)) x45)) x44 (wrap64 (x45 + 1)) x1000 (wrap64 (x1001 + 1)) x1002) else (none)) else (none)) else (none)) else (none)) else (some (x5, x1001, x1002))
end
def impl_bitReader_get.f (k : Nat) (s0_0 : List Int) (s0_1 : Int) (s0_2 : Bool) (a1 : Int) : Option (Int × Int × Bool) := if s0_2 = true then (impl_bitReader_get.j0 k a1 true s0_0 s0_1 s0_2) else (if s0_1 < 0 then (impl_bitReader_get.j0 k a1 true s0_0 s0_1 s0_2) else (if a1 < 1 then (impl_bitReader_get.j0 k a1 true s0_0 s0_1 s0_2) else (if a1 > 12 then (impl_bitReader_get.j0 k a1 true s0_0 s0_1 s0_2) else (impl_bitReader_get.j0 k a1 (decide ((wrap64 ((wrap64 (8 * (s0_0.length : Int))) - s0_1)) < a1)) s0_0 s0_1 s0_2))))
theorem impl_bitReader_get.mono_l : ∀ k, (∀ y0 y1 y2 y3 y4, LeO (impl_bitReader_get.j0 k y0 y1 y2 y3 y4) (impl_bitReader_get.j0 (k + 1) y0 y1 y2 y3 y4)) ∧ (∀ y0 y1 y2 y3 y4 y5, LeO (impl_bitReader_get.l0 k y0 y1 y2 y3 y4 y5) (impl_bitReader_get.l0 (k + 1) y0 y1 y2 y3 y4 y5))
 | 0 => ⟨(fun _ _ _ _ _ r h => nomatch (show none = some r from h)), (fun _ _ _ _ _ _ r h => nomatch (show none = some r from h))⟩
 | k + 1 => by
  obtain ⟨ih0, ih1⟩ := impl_bitReader_get.mono_l k
  refine ⟨?_, ?_⟩
  ·intro y0 y1 y2 y3 y4
   unfold impl_bitReader_get.j0
   repeat' first
   | (with_reducible exact ih0 _ _ _ _ _)
   | (with_reducible exact ih1 _ _ _ _ _ _)
   | (with_reducible exact LeO.refl _)
   | (with_reducible exact LeO.none _)
   | (with_reducible refine LeO.ite ?_ ?_)
   | (with_reducible refine LeO.bind ?_ (fun _ => ?_))
   | exact ih0 _ _ _ _ _
   | exact ih1 _ _ _ _ _ _
   | exact LeO.none _
   | refine LeO.ite ?_ ?_
   | refine LeO.bind ?_ (fun _ => ?_)
  ·intro y0 y1 y2 y3 y4 y5
   unfold impl_bitReader_get.l0
   repeat' first
   | (with_reducible exact ih0 _ _ _ _ _)
   | (with_reducible exact ih1 _ _ _ _ _ _)
   | (with_reducible exact LeO.refl _)
   | (with_reducible exact LeO.none _)
   | (with_reducible refine LeO.ite ?_ ?_)
   | (with_reducible refine LeO.bind ?_ (fun _ => ?_))
   | exact ih0 _ _ _ _ _
   | exact ih1 _ _ _ _ _ _
   | exact LeO.none _
   | refine LeO.ite ?_ ?_
   | refine LeO.bind ?_ (fun _ => ?_)
theorem impl_bitReader_get.mono : ∀ a0 a1 a2 a3 k, LeO (impl_bitReader_get.f k a0 a1 a2 a3) (impl_bitReader_get.f (k + 1) a0 a1 a2 a3) := by
 intro a0 a1 a2 a3 k
 obtain ⟨ih0, ih1⟩ := impl_bitReader_get.mono_l k
 unfold impl_bitReader_get.f
 repeat' first
   | (with_reducible exact ih0 _ _ _ _ _)
   | (with_reducible exact ih1 _ _ _ _ _ _)
   | (with_reducible exact LeO.refl _)
   | (with_reducible exact LeO.none _)
   | (with_reducible refine LeO.ite ?_ ?_)
   | (with_reducible refine LeO.bind ?_ (fun _ => ?_))
   | exact ih0 _ _ _ _ _
   | exact ih1 _ _ _ _ _ _
   | exact LeO.none _
   | refine LeO.ite ?_ ?_
   | refine LeO.bind ?_ (fun _ => ?_)
set_option maxHeartbeats 8000000 in
set_option maxRecDepth 100000 in
theorem impl_bitReader_get.calls (k : Nat) (g : Nat) (s0_0 : List Int) (s0_1 : Int) (s0_2 : Bool) (a1 : Int) (r1 : Int) (r2 : Int) (r3 : Bool) (w0 w : World) (hI : IsS61 w0 w g s0_0 s0_1 s0_2) (hB : Below w0.heap.size w0 w) (h : impl_bitReader_get.f k s0_0 s0_1 s0_2 a1 = some (r1, r2, r3)) :
  Calls Try.prog 45 #[.pointer (some ⟨g, 0, none⟩), .int .i64 a1] w fun e w' => e = .returned (.int .i64 r1) ∧ IsS61 w0 w' g s0_0 r2 r3 ∧ Below w0.heap.size w0 w' ∧ KeepBut w w' g none := by
 have aC := Aside0.mk hI
 have HK := Aside0.mk (KeepBut.refl w g none)
 have HL := Aside0.mk hB.size
 clear hI
 have HW0 := Aside0.mk hB.size
 have HB := Aside0.mk hB
 clear hB
 have H : (if s0_2 = true then (impl_bitReader_get.j0 k a1 true s0_0 s0_1 s0_2) else (if s0_1 < 0 then (impl_bitReader_get.j0 k a1 true s0_0 s0_1 s0_2) else (if a1 < 1 then (impl_bitReader_get.j0 k a1 true s0_0 s0_1 s0_2) else (if a1 > 12 then (impl_bitReader_get.j0 k a1 true s0_0 s0_1 s0_2) else (impl_bitReader_get.j0 k a1 (decide ((wrap64 ((wrap64 (8 * (s0_0.length : Int))) - s0_1)) < a1)) s0_0 s0_1 s0_2))))) = some (r1, r2, r3) := h
 clear h
 have cE := Aside0.mk H
 clear H
 go_enter Try.func45, Try.ntmps45
 go_upto_region 1 with (fail)
 repeat (go_quiet (fail); go_upto_region 1 with (fail))
 go_cut [40] (fun cT wc => ∃ (kq : Nat) (aQ : Bool), cT = .bool aQ ∧ Aside0 (impl_bitReader_get.j0 kq a1 aQ s0_0 s0_1 s0_2 = some (r1, r2, r3)) ∧ Aside0 (kq ≤ k) ∧ Aside0 (IsS61 w0 wc g s0_0 s0_1 s0_2) ∧ Aside0 (KeepBut w wc g none) ∧ Aside0 (Below w0.heap.size w0 wc))
 case first =>
  have H := cE.out
  clear cE
  by_cases c4 : s0_2 = true
  ·subst c4
   rw [if_pos rfl] at H
   have H' := Aside0.mk H
   clear H
   obtain ⟨ASz5_0, cSz5_0, HGz5, hgz5, HSz5_0⟩ := aC.out
   have aS := cellS61_0 HGz5
   have aT := cellS61_1 HGz5
   have aU := cellS61_2 HGz5
   have bB := blk_frozen HGz5 1
   have bC := blk_frozen HGz5 2
   clear HGz5 hgz5
   go_wp2
   repeat (go_quiet (fail); try go_wp2)
   go_meet
   case rel => exact ⟨_, (true), oU, H', ⟨(by first | omega | exact Nat.le_refl _)⟩, ⟨(oI61 aC)⟩, ⟨(oE HK)⟩, ⟨(oH HB (IsS61.ge aC.out))⟩⟩
  ·replace c4 := Bool.eq_false_iff.mpr c4
   subst c4
   rw [if_neg (show ¬ (false = true) by decide)] at H
   by_cases c6 : s0_1 < 0
   ·rw [if_pos c6] at H
    have aE : decide (s0_1 < 0) = true := decide_eq_true c6
    clear c6
    (first | rw [aE] | (simp only [i64_w, i32_w]; rw [aE]) | skip)
    have H' := Aside0.mk H
    clear H
    obtain ⟨ASz7_0, cSz7_0, HGz7, hgz7, HSz7_0⟩ := aC.out
    have aV := cellS61_0 HGz7
    have aW := cellS61_1 HGz7
    have aX := cellS61_2 HGz7
    have bD := blk_frozen HGz7 1
    have bE := blk_frozen HGz7 2
    clear HGz7 hgz7
    go_wp2
    repeat (go_quiet (fail); try go_wp2)
    go_meet
    case rel => exact ⟨_, (true), oU, H', ⟨(by first | omega | exact Nat.le_refl _)⟩, ⟨(oI61 aC)⟩, ⟨(oE HK)⟩, ⟨(oH HB (IsS61.ge aC.out))⟩⟩
   ·rw [if_neg c6] at H
    have aE : decide (s0_1 < 0) = false := decide_eq_false c6
    clear c6
    (first | rw [aE] | (simp only [i64_w, i32_w]; rw [aE]) | skip)
    by_cases c8 : a1 < 1
    ·rw [if_pos c8] at H
     have bN : decide (a1 < 1) = true := decide_eq_true c8
     clear c8
     have H' := Aside0.mk H
     clear H
     obtain ⟨ASz9_0, cSz9_0, HGz9, hgz9, HSz9_0⟩ := aC.out
     have aY := cellS61_0 HGz9
     have aZ := cellS61_1 HGz9
     have bA := cellS61_2 HGz9
     have bF := blk_frozen HGz9 1
     have bG := blk_frozen HGz9 2
     clear HGz9 hgz9
     go_wp2
     repeat (go_quiet (fail); try go_wp2)
     go_meet
     case rel => exact ⟨_, (true), oU, H', ⟨(by first | omega | exact Nat.le_refl _)⟩, ⟨(oI61 aC)⟩, ⟨(oE HK)⟩, ⟨(oH HB (IsS61.ge aC.out))⟩⟩
    ·rw [if_neg c8] at H
     have bN : decide (a1 < 1) = false := decide_eq_false c8
     clear c8
     by_cases bM : a1 > 12
     ·rw [if_pos bM] at H
      have aR : decide (12 < a1) = true := decide_eq_true bM
      clear bM
      have H' := Aside0.mk H
      clear H
      obtain ⟨ASz11_0, cSz11_0, HGz11, hgz11, HSz11_0⟩ := aC.out
      have aF := cellS61_0 HGz11
      have aG := cellS61_1 HGz11
      have aH := cellS61_2 HGz11
      have aL := blk_frozen HGz11 1
      have aM := blk_frozen HGz11 2
      clear HGz11 hgz11
      go_wp2
      repeat (go_quiet (fail); try go_wp2)
      go_meet
      case rel => exact ⟨_, (true), oU, H', ⟨(by first | omega | exact Nat.le_refl _)⟩, ⟨(oI61 aC)⟩, ⟨(oE HK)⟩, ⟨(oH HB (IsS61.ge aC.out))⟩⟩
     ·rw [if_neg bM] at H
      have aR : decide (12 < a1) = false := decide_eq_false bM
      clear bM
      have H' := Aside0.mk H
      clear H
      obtain ⟨ASz12_0, cSz12_0, HGz12, hgz12, HSz12_0⟩ := aC.out
      have aI := cellS61_0 HGz12
      have aJ := cellS61_1 HGz12
      have aK := cellS61_2 HGz12
      have aN := blk_frozen HGz12 1
      have aO := blk_frozen HGz12 2
      clear HGz12 hgz12
      go_wp2
      repeat (go_quiet (fail); try go_wp2)
      go_meet
      case rel => exact ⟨_, (decide ((wrap64 ((wrap64 (8 * (s0_0.length : Int))) - s0_1)) < a1)), oU, H', ⟨(by first | omega | exact Nat.le_refl _)⟩, ⟨(oI61 aC)⟩, ⟨(oE HK)⟩, ⟨(oH HB (IsS61.ge aC.out))⟩⟩
 case rest =>
  clear cE
  try clear c1
  try clear p2
  try clear c4
  try clear c6
  try clear aE
  try clear p6
  try clear c8
  try clear bN
  try clear bM
  try clear aR
  try clear aF
  try clear aG
  try clear aH
  try clear aI
  try clear aJ
  try clear aK
  try clear aS
  try clear aT
  try clear aU
  try clear aV
  try clear aW
  try clear aX
  try clear aY
  try clear aZ
  try clear bA
  try clear aL
  try clear aM
  try clear aN
  try clear aO
  try clear bB
  try clear bC
  try clear bD
  try clear bE
  try clear bF
  try clear bG
  obtain ⟨kq, aQ, rfl, HA, cL, aC, HK, HB⟩ := hcut
  cases kq with
  | zero => exact nomatch (show none = some _ from HA.out)
  | succ kj2 =>
   have H := HA.out
   clear HA
   simp only [impl_bitReader_get.j0] at H
   by_cases bT : aQ = true
   ·subst bT
    rw [if_pos rfl] at H
    simp only [Option.some.injEq, Prod.mk.injEq] at H
    obtain ⟨rfl, rfl, rfl⟩ := H
    obtain ⟨ASz14_0, cSz14_0, HGz14, hgz14, HSz14_0⟩ := aC.out
    have bH := cellS61_0 HGz14
    have bI := cellS61_1 HGz14
    have bJ := cellS61_2 HGz14
    have bK := blk_frozen HGz14 1
    have bL := blk_frozen HGz14 2
    clear HGz14 hgz14
    go_wp2
    repeat (go_quiet (fail); try go_wp2)
    go_ret
    exact ⟨by first | rfl | (simp [errW_none, errW_some] <;> rfl) | (simp [*, errW_none, errW_some] <;> rfl), oI61 aC, oH HB (IsS61.ge aC.out), oE HK⟩
   ·replace bT := Bool.eq_false_iff.mpr bT
    subst bT
    rw [if_neg (show ¬ (false = true) by decide)] at H
    have H' := Aside0.mk H
    clear H
    go_wp2
    repeat (go_quiet (fail); try go_wp2)
    go_loopg [5, 45] kj2 (fun kq v5 cU w' => ∃ (aD : Int) (aA : Int) (aB : Int), v5 = .int .i64 aD ∧ cU = .int .i64 aA ∧ Aside0 (impl_bitReader_get.l0 kq aD a1 aA s0_0 aB s0_2 = some (r1, r2, r3)) ∧ Aside0 (kq ≤ kj2) ∧ Aside0 (IsS61 w0 w' g s0_0 aB s0_2) ∧ Aside0 (KeepBut w w' g none) ∧ Aside0 (Below w0.heap.size w0 w'))
    case atStart => exact ⟨(0), (0), (s0_1), oU, oU, H', ⟨Nat.le_refl _⟩, ⟨(oI61 aC)⟩, ⟨(oE HK)⟩, ⟨(oH HB (IsS61.ge aC.out))⟩⟩
    case round =>
     clear H'
     try clear c1
     try clear p2
     try clear c4
     try clear c6
     try clear aE
     try clear p6
     try clear c8
     try clear bN
     try clear bM
     try clear aR
     try clear bT
     try clear aF
     try clear aG
     try clear aH
     try clear aI
     try clear aJ
     try clear aK
     try clear bH
     try clear bI
     try clear bJ
     try clear aS
     try clear aT
     try clear aU
     try clear aV
     try clear aW
     try clear aX
     try clear aY
     try clear aZ
     try clear bA
     try clear aL
     try clear aM
     try clear aN
     try clear aO
     try clear bK
     try clear bL
     try clear bB
     try clear bC
     try clear bD
     try clear bE
     try clear bF
     try clear bG
     try clear p2
     try clear p6
     obtain ⟨aD, aA, aB, rfl, rfl, HA, HK2, aC, HK, HB⟩ := hrel
     cases gk with
     | zero => exact nomatch (show none = some _ from HA.out)
     | succ k2 =>
      have H := HA.out
      clear HA
      simp only [impl_bitReader_get.l0] at H
      by_cases bS : aA < a1
      ·rw [if_pos bS] at H
       have bU : decide (aA < a1) = true := decide_eq_true bS
       clear bS
       obtain ⟨ji16, hji16⟩ : ∃ j_ : Int, (wrap64 (Int.tdiv aB 8)) = j_ := ⟨_, rfl⟩
       replace H : (if 0 ≤ (ji16) then (if (ji16) < (s0_0.length : Int) then (if 0 ≤ (Int.tmod aB 8) then (if 0 ≤ aA then (impl_bitReader_get.l0 k2 (Go.bits .or .i64 aD (shl .i64 (wrap64 (Go.bits .and .u8 (shr .u8 (rd s0_0 (ji16)) (Int.tmod aB 8)) 1)) aA)) a1 (wrap64 (aA + 1)) s0_0 (wrap64 (aB + 1)) s0_2) else (none)) else (none)) else (none)) else (none)) = some (r1, r2, r3) := by first | (rw [hji16] at H; exact H) | (simp only [hji16] at H ⊢; exact H)
       have cG : (IntKind.i64.wrap (Int.tdiv aB 8)) = ji16 := (i64_w _).trans hji16
       by_cases bX : 0 ≤ (ji16)
       ·rw [if_pos bX] at H
        have cN : decide (0 ≤ (ji16)) = true := decide_eq_true bX
        clear bX
        by_cases bY : (ji16) < (s0_0.length : Int)
        ·rw [if_pos bY] at H
         have cO : decide ((ji16) < (s0_0.length : Int)) = true := decide_eq_true bY
         clear bY
         obtain ⟨ji19, hji19⟩ : ∃ j_ : Int, (Int.tmod aB 8) = j_ := ⟨_, rfl⟩
         replace H : (if 0 ≤ (ji19) then (if 0 ≤ aA then (impl_bitReader_get.l0 k2 (Go.bits .or .i64 aD (shl .i64 (wrap64 (Go.bits .and .u8 (shr .u8 (rd s0_0 (ji16)) (ji19)) 1)) aA)) a1 (wrap64 (aA + 1)) s0_0 (wrap64 (aB + 1)) s0_2) else (none)) else (none)) = some (r1, r2, r3) := by first | (rw [hji19] at H; exact H) | (simp only [hji19] at H ⊢; exact H)
         by_cases bV : 0 ≤ (ji19)
         ·rw [if_pos bV] at H
          have cP := eq_true bV
          have cQ : decide (0 ≤ (ji19)) = true := decide_eq_true bV
          clear bV
          obtain ⟨ji21, hji21⟩ : ∃ j_ : Int, (shr .u8 (rd s0_0 (ji16)) (ji19)) = j_ := ⟨_, rfl⟩
          replace H : (if 0 ≤ aA then (impl_bitReader_get.l0 k2 (Go.bits .or .i64 aD (shl .i64 (wrap64 (Go.bits .and .u8 (ji21) 1)) aA)) a1 (wrap64 (aA + 1)) s0_0 (wrap64 (aB + 1)) s0_2) else (none)) = some (r1, r2, r3) := by first | (rw [hji21] at H; exact H) | (simp only [hji21] at H ⊢; exact H)
          have cH : ((rd s0_0 (ji16)) / 2 ^ min (ji19).toNat 8) = ji21 := hji21
          have cI : (ji19) ≤ 8 → ((rd s0_0 (ji16)) / 2 ^ (ji19).toNat) = ji21 := shr_small hji21
          by_cases bW : 0 ≤ aA
          ·rw [if_pos bW] at H
           have cR := eq_true bW
           have cS : decide (0 ≤ aA) = true := decide_eq_true bW
           clear bW
           obtain ⟨ji23, hji23⟩ : ∃ j_ : Int, (shl .i64 (wrap64 (Go.bits .and .u8 (ji21) 1)) aA) = j_ := ⟨_, rfl⟩
           replace H : (impl_bitReader_get.l0 k2 (Go.bits .or .i64 aD (ji23)) a1 (wrap64 (aA + 1)) s0_0 (wrap64 (aB + 1)) s0_2) = some (r1, r2, r3) := by first | (rw [hji23] at H; exact H) | (simp only [hji23] at H ⊢; exact H)
           have bO : (IntKind.i64.wrap ((wrap64 (Go.bits .and .u8 (ji21) 1)) * 2 ^ min aA.toNat 64)) = ji23 := hji23
           have bP : aA ≤ 64 → (IntKind.i64.wrap ((wrap64 (Go.bits .and .u8 (ji21) 1)) * 2 ^ aA.toNat)) = ji23 := shl_small hji23
           have cK : (wrap64 ((wrap64 (Go.bits .and .u8 (ji21) 1)) * 2 ^ min aA.toNat 64)) = ji23 := (i64_w _).symm.trans bO
           have cJ : aA ≤ 64 → (wrap64 ((wrap64 (Go.bits .and .u8 (ji21) 1)) * 2 ^ aA.toNat)) = ji23 := fun h_ => (i64_w _).symm.trans (bP h_)
           have H' := Aside0.mk H
           clear H
           obtain ⟨ASz24_0, cSz24_0, HGz24, hgz24, HSz24_0⟩ := aC.out
           have bZ := cellS61_0 HGz24
           have cA := cellS61_1 HGz24
           have cB := cellS61_2 HGz24
           have cC := blk_frozen HGz24 1
           have cD := blk_frozen HGz24 2
           clear HGz24 hgz24
           have bQ : 0 ≤ ((ji16) : Int) := of_decide_eq_true oM
           have bR : (ji16) < (s0_0.length : Int) := of_decide_eq_true oM
           obtain ⟨cM, cF, aP⟩ := Kd.at_int HSz24_0 (ji16) bQ bR
           cases cF
           replace aP := pw_cell_below HB.out aP
           replace bQ := eq_true bQ
           replace bR := eq_true bR
           go_wp2
           repeat (go_quiet (fail); try go_wp2)
           go_roundg k2
           case measure => have := cL.out; have := HK2.out; omega
           case rel => exact ⟨(Go.bits .or .i64 aD (ji23)), (wrap64 (aA + 1)), (wrap64 (aB + 1)), (by first | rfl | (simp; done) | (simp only [← hji23] <;> (first | rfl | simp)) | (simp [*]; done)), oU, H', ⟨(by have := cL.out; have := HK2.out; omega)⟩, ⟨(oI61 aC)⟩, ⟨(oE HK)⟩, ⟨(oH HB (IsS61.ge aC.out))⟩⟩
          ·rw [if_neg bW] at H
           exact absurd H (by simp)
         ·rw [if_neg bV] at H
          exact absurd H (by simp)
        ·rw [if_neg bY] at H
         exact absurd H (by simp)
       ·rw [if_neg bX] at H
        exact absurd H (by simp)
      ·rw [if_neg bS] at H
       have bU : decide (aA < a1) = false := decide_eq_false bS
       clear bS
       simp only [Option.some.injEq, Prod.mk.injEq] at H
       obtain ⟨rfl, rfl, rfl⟩ := H
       go_wp2
       repeat (go_quiet (fail); try go_wp2)
       go_ret
       exact ⟨by first | rfl | (simp [errW_none, errW_some] <;> rfl) | (simp [*, errW_none, errW_some] <;> rfl), oI61 aC, oH HB (IsS61.ge aC.out), oE HK⟩

end Go.Proofs.Ytfnkaccncmjnaaa.X
