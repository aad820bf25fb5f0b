/- What functions of the program come to, each with its proof. No condition but what each theorem states. -/
import Derived.Test.YtfnkaccncmjnaaaX0
import Derived.Test.YtfnkaccncmjnaaaX27
import Derived.Test.YtfnkaccncmjnaaaX40
namespace Go.Proofs.Ytfnkaccncmjnaaa.X
open Go.RowKit Go.Proofs.YtfnkaccncmjnaaaW.PrintWords Go.Proofs.YtfnkaccncmjnaaaW.PrintLast Go.Proofs.YtfnkaccncmjnaaaW.PrintMore Go.Proofs.Ytfnkaccncmjnaaa.Hyb
attribute [local go_sem] max2_int min2_int max_two min_two max_three min_three max_four min_four
set_option linter.unusedVariables false
set_option linter.unusedSimpArgs false

/-! ### impl_PakGet: function 30 -/
/-- The strings so far, and one more, of the last one. -/
def pk_grow (o : List Int) (sp : List S36) (la ls : Int) : List S36 := if 0 < o.length ∧ 257 + sp.length < 512 then sp ++ [⟨la, ls + 1⟩] else sp
/-- Bytes of the row put behind it, one by one. -/
def pk_copy (a : Int) : Nat → Nat → List Int → Option (List Int)
 | 0, _, o => some o
 | n + 1, i, o => if 0 ≤ a ∧ a + (i : Int) < (o.length : Int) ∧ o.length ≤ 100000 then pk_copy a n (i + 1) (o ++ [rd o (a + (i : Int))]) else none
/-- One code unpacked: what was unpacked, and the strings; 'some none': there is no such code. -/
def pk_take (o : List Int) (sp : List S36) (la ls c : Int) : Option (Option (List Int × List S36)) :=
 if 0 ≤ la ∧ la ≤ 1000 ∧ 0 ≤ ls ∧ ls ≤ 1000 ∧ o.length ≤ 1000 ∧ sp.length ≤ 1000 ∧ 0 ≤ c ∧ c ≤ 1000 then
  (if c < 256 then some (some (o ++ [c], pk_grow o sp la ls))
  else if 257 ≤ c ∧ c - 257 < ((pk_grow o sp la ls).length : Int) then
   (if 0 ≤ (rd_T36 (pk_grow o sp la ls) (c - 257)).f1 ∧ (rd_T36 (pk_grow o sp la ls) (c - 257)).f1 ≤ 1000 then
    (pk_copy (rd_T36 (pk_grow o sp la ls) (c - 257)).f0 (rd_T36 (pk_grow o sp la ls) (c - 257)).f1.toNat 0 o).bind fun o' => some (some (o', pk_grow o sp la ls)) else none)
  else some none) else none
def pk_fits : Option (List Int × List S36) → Bool
 | none => false
 | some r => decide ((r.1.length : Int) ≤ 200)
theorem pk_copy_len (a : Int) : ∀ n i o o', pk_copy a n i o = some o' → o'.length = o.length + n
 | 0, i, o, o', h => by simp [pk_copy] at h; subst h; rfl
 | n + 1, i, o, o', h => by
  unfold pk_copy at h
  split at h
  ·have := pk_copy_len a n (i + 1) _ o' h
   simp at this; omega
  ·cases h
theorem pk_info68 : (Try.prog.info? 68).map (fun i => (i.zero, i.size, i.bytes)) = some (some (.agg #[(.int .i64 0), (.int .i64 0)]), 2, 16) := by kernel_rfl
/-- The opener's block and the reader's, as they stand. -/
def PkB (w0 w : World) (g gi : Nat) (xi cs : Array Value) : Prop := w.heap[g]? = some (.cells cs 70 (0, 0)) ∧ w.heap[gi]? = some (.cells xi 61 (0, 0)) ∧ w0.heap.size ≤ g ∧ Below w0.heap.size w0 w
theorem pk_ne {w : World} {g t e : Nat} {cs : Array Value} {v : Value} (hb : w.heap[g]? = some (.cells cs t (0, 0))) (hty : ∀ k, v.ownBlock = some k → ∃ cells, w.heap[k]? = some (.cells cells e (0, 0))) (h : e ≠ t) : some g ≠ v.ownBlock := by
 intro he
 obtain ⟨cells, hc⟩ := hty g he.symm
 rw [hb] at hc
 injection hc with hc
 injection hc with _ hc
 exact h hc.symm
section
variable {w0 w w1 : World} {g gi : Nat} {xi cs : Array Value}
theorem PkB.cell (h : PkB w0 w g gi xi cs) (i : Nat) : w.cell? ⟨g, i, none⟩ = cs[i]? := blk_cell h.1 i
theorem PkB.frozen (h : PkB w0 w g gi xi cs) (i : Nat) : w.frozen? ⟨g, i, none⟩ = false := blk_frozen h.1 i
theorem PkB.drewN (h : PkB w0 w g gi xi cs) (n : Nat) : PkB w0 (w.drewN n) g gi xi cs := ⟨h.1, h.2.1, h.2.2.1, pw_below_drewN h.2.2.2 n⟩
theorem PkB.drew (h : PkB w0 w g gi xi cs) : PkB w0 w.drew g gi xi cs := ⟨h.1, h.2.1, h.2.2.1, below_drew1 h.2.2.2⟩
theorem PkB.below (h : PkB w0 w g gi xi cs) (hb : Below w.heap.size w w1) : PkB w0 w1 g gi xi cs := ⟨blk_below h.1 hb, blk_below h.2.1 hb, h.2.2.1, below_step h.2.2.2 hb⟩
theorem PkB.alloc (h : PkB w0 w g gi xi cs) (o : Obj) : PkB w0 (w.alloc o) g gi xi cs := h.below (below_alloc (Below.refl _ _) o)
theorem PkB.over {α : Type} {d : Kd α} {e b : Nat} {ok : Nat → Prop} {v : Value} {xs : List α} (h : PkB w0 w g gi xi cs) (hR : Kd.R d e w b ok v xs) (h1 : e ≠ 70) (h2 : e ≠ 61) (hg : w.grownBy w1 v.ownBlock) (hb : Below w0.heap.size w0 w1) : PkB w0 w1 g gi xi cs :=
 ⟨blk_grown h.1 hg (pk_ne h.1 (Kd.R_typed hR) h1), blk_grown h.2.1 hg (pk_ne h.2.1 (Kd.R_typed hR) h2), h.2.2.1, hb⟩
theorem PkB.ne (h : PkB w0 w g gi xi cs) : gi ≠ g := by
 rintro rfl
 have h1 := h.1
 rw [h.2.1] at h1
 injection h1 with h1
 injection h1 with _ h1
 exact absurd h1 oD
theorem PkB.set {cs' : Array Value} (h : PkB w0 w g gi xi cs) (i : Nat) (u : Value) (e : cs.setIfInBounds i u = cs') : PkB w0 (w.setCell ⟨g, i, none⟩ u) g gi xi cs' :=
 ⟨blk_put h.1 i u e, blk_far h.2.1 (p := ⟨g, i, none⟩) h.ne u, h.2.2.1, below_set h.2.2.2 h.2.2.1⟩
theorem PkB.row {α : Type} {d : Kd α} {e b : Nat} {v : Value} {xs : List α} (h : PkB w0 w g gi xi cs) (hR : Kd.R d e w b (fun _ => True) v xs) (ht : ∀ q, q ∈ e :: d.E → q ≠ 70) (i : Nat) (u : Value) : Kd.R d e (w.setCell ⟨g, i, none⟩ u) b (fun _ => True) v xs :=
 Kd.R_mono (Kd.R_far (p := ⟨g, i, none⟩) (Kd.R_types hR h.1 ht) (fun _ hk => hk.2) u) (fun _ _ => trivial)
end
set_option maxHeartbeats 8000000 in
set_option maxRecDepth 100000 in
theorem pk_take_calls (g gi : Nat) (xi : Array Value) (o : List Int) (sp : List S36) (la ls c : Int) (vl vs : Value) (w0 w : World) (res : Option (List Int × List S36))
  (hP : PkB w0 w g gi xi #[vl, vs, .int .i64 la, .int .i64 ls]) (hl : Kd.R (Kd.int .u8) 5 w w0.heap.size (fun _ => True) vl o) (hs : Kd.R k36 68 w w0.heap.size (fun _ => True) vs sp) (h : pk_take o sp la ls c = some res) :
  Calls Try.prog 50 #[.pointer (some ⟨g, 0, none⟩), .int .i64 c] w fun e w' => e = .returned (.bool (pk_fits res)) ∧ Below w0.heap.size w0 w' ∧ w'.heap[gi]? = some (.cells xi 61 (0, 0)) ∧
   ∀ o' sp', res = some (o', sp') → ∃ vl' vs', PkB w0 w' g gi xi #[vl', vs', .int .i64 o.length, .int .i64 ((o'.length : Int) - o.length)] ∧ Kd.R (Kd.int .u8) 5 w' w0.heap.size (fun _ => True) vl' o' ∧ Kd.R k36 68 w' w0.heap.size (fun _ => True) vs' sp' := by
 have hu70 := Try.underlying70
 have hu68 := Try.underlying68
 unfold pk_take at h
 by_cases hG : 0 ≤ la ∧ la ≤ 1000 ∧ 0 ≤ ls ∧ ls ≤ 1000 ∧ o.length ≤ 1000 ∧ sp.length ≤ 1000 ∧ 0 ≤ c ∧ c ≤ 1000
 ·rw [if_pos hG] at h
  obtain ⟨q0, q1, q2, q3, q4, q5, q6, q7⟩ := hG
  obtain ⟨Al, cl, rfl⟩ := Kd.R_slice hl
  obtain ⟨As, cs, rfl⟩ := Kd.R_slice hs
  have HP := Aside0.mk hP
  have HL := Aside0.mk hl
  have HS := Aside0.mk hs
  have H := Aside0.mk h
  clear hP hl hs h
  have aH := HP.out.cell 0
  have aT := HP.out.cell 1
  have aU := HP.out.cell 2
  have aV := HP.out.cell 3
  simp only [List.getElem?_toArray, List.getElem?_cons_zero, List.getElem?_cons_succ] at aH aT aU aV
  go_enter Try.func50, Try.ntmps50
  go_upto_region 2 with (fail)
  go_cut [23] (fun v wx => v = .bool (decide (0 < o.length ∧ 257 + sp.length < 512)) ∧ wx = w)
  case first =>
   have hw : IntKind.i64.wrap (257 + (sp.length : Int)) = 257 + (sp.length : Int) := by rw [i64_w]; unfold wrap64; omega
   by_cases c1 : 0 < (o.length : Int)
   ·have d1 : decide (0 < (o.length : Int)) = true := decide_eq_true c1
    have d1n : decide (0 < o.length) = true := decide_eq_true (by omega)
    by_cases c2 : 257 + (sp.length : Int) < 512
    ·have d2 : decide (257 + (sp.length : Int) < 512) = true := decide_eq_true c2
     go_wp2_with (fail)
     go_meet
     case rel => exact ⟨congrArg Value.bool (decide_eq_true (by omega)).symm, rfl⟩
    ·have d2 : decide (257 + (sp.length : Int) < 512) = false := decide_eq_false c2
     go_wp2_with (fail)
     go_meet
     case rel => exact ⟨congrArg Value.bool (decide_eq_false (by omega)).symm, rfl⟩
   ·have d1 : decide (0 < (o.length : Int)) = false := decide_eq_false c1
    have d1n : decide (0 < o.length) = false := decide_eq_false (by omega)
    go_wp2_with (fail)
    go_meet
    case rel => exact ⟨congrArg Value.bool (decide_eq_false (by omega)).symm, rfl⟩
  case rest =>
   obtain ⟨rfl, rfl⟩ := hcut
   rename World => w
   go_upto_if 23 with (fail)
   go_cut [] (fun wx => ∃ vs', Aside0 (PkB w0 wx g gi xi #[.slice Al o.length cl, vs', .int .i64 la, .int .i64 ls]) ∧ Aside0 (Kd.R (Kd.int .u8) 5 wx w0.heap.size (fun _ => True) (.slice Al o.length cl) o) ∧ Aside0 (Kd.R k36 68 wx w0.heap.size (fun _ => True) vs' (pk_grow o sp la ls)))
   case first =>
    by_cases hgr : 0 < o.length ∧ 257 + sp.length < 512
    ·have hd : decide (0 < o.length ∧ 257 + sp.length < 512) = true := decide_eq_true hgr
     rw [hd]
     have hls : IntKind.i64.wrap (ls + 1) = ls + 1 := by rw [i64_w]; unfold wrap64; omega
     have HP1 := Aside0.mk HP.out.drew
     have aA := Aside0.mk (Kd.R_drew HL.out)
     have HS1 := Aside0.mk (Kd.R_drew HS.out)
     have kc0 := HP1.out.cell 0
     have kc1 := HP1.out.cell 1
     have kc2 := HP1.out.cell 2
     have kc3 := HP1.out.cell 3
     simp only [List.getElem?_toArray, List.getElem?_cons_zero, List.getElem?_cons_succ] at kc0 kc1 kc2 kc3
     go_wp2_with (fail)
     refine start_ (n := 22) (S := fun w' => w'.cell? ⟨g, 1, none⟩ = some (.slice As sp.length cs) ∧ w'.cell? ⟨g, 2, none⟩ = some (.int .i64 la) ∧ w'.cell? ⟨g, 3, none⟩ = some (.int .i64 ls)) (ds := [21]) #[false, false, false, false, false, false, false, false, false, false, false, false, false, false, false, false, false, false, false, false, false, false] oK rfl rfl ⟨kc1, kc2, kc3⟩ (fun hHeld => ?_)
     generalize w.drew = w1 at HP1 aA HS1 kc0 kc1 kc2 kc3 hHeld ⊢
     refine pure_ (i := 0) (N := (some 24)) (v := ?_) (a' := ?_) #[true, false, false, false, false, false, false, false, false, false, false, false, false, false, false, false, false, false, false, false, false, false] rfl rfl oK (fun _ _ _ h => h) (Or.inl ⟨by rfl, ?_⟩) ?_ ?_
     rotate_left
     ·intro w'
      go_simp
      (try simp only [hls])
      with_reducible rfl
     rotate_left
     ·exact oT
     refine pure_ (i := 1) (N := (some 25)) (v := ?_) (a' := ?_) #[true, true, false, false, false, false, false, false, false, false, false, false, false, false, false, false, false, false, false, false, false, false] rfl rfl oK (fun _ _ _ h => h) (Or.inl ⟨by rfl, ?_⟩) ?_ ?_
     rotate_left
     ·intro w'
      go_simp
      (try simp only [hls])
      with_reducible rfl
     rotate_left
     ·exact oT
     refine pure_ (i := 2) (N := (some 26)) (v := ?_) (a' := ?_) #[true, true, true, false, false, false, false, false, false, false, false, false, false, false, false, false, false, false, false, false, false, false] rfl rfl oK (fun _ _ _ h => h) (Or.inl ⟨by rfl, ?_⟩) ?_ ?_
     rotate_left
     ·intro w'
      go_simp
      (try simp only [hls])
      with_reducible rfl
     rotate_left
     ·exact oT
     refine pure_ (i := 3) (N := (some 27)) (v := ?_) (a' := ?_) #[true, true, true, true, false, false, false, false, false, false, false, false, false, false, false, false, false, false, false, false, false, false] rfl rfl oK (fun _ _ _ h => h) (Or.inl ⟨by rfl, ?_⟩) ?_ ?_
     rotate_left
     ·intro w'
      go_simp
      (try simp only [hls])
      with_reducible rfl
     rotate_left
     ·exact oT
     refine take_ (i := 4) (N := (some 28)) (v := ?_) (a' := ?_) #[true, true, true, true, true, false, false, false, false, false, false, false, false, false, false, false, false, false, false, false, false, false] rfl rfl oK (fun _ _ _ h => h) (Or.inl ⟨by rfl, ?_⟩) hHeld ?_ ?_
     rotate_left
     ·intro w' s0
      go_simp
      (try simp only [hls])
      with_reducible rfl
     rotate_left
     ·exact oT
     refine pure_ (i := 5) (N := (some 29)) (v := ?_) (a' := ?_) #[true, true, true, true, true, true, false, false, false, false, false, false, false, false, false, false, false, false, false, false, false, false] rfl rfl oK (fun _ _ _ h => h) (Or.inl ⟨by rfl, ?_⟩) ?_ ?_
     rotate_left
     ·intro w'
      go_simp
      (try simp only [hls])
      with_reducible rfl
     rotate_left
     ·exact oT
     refine pure_ (i := 6) (N := (some 30)) (v := ?_) (a' := ?_) #[true, true, true, true, true, true, true, false, false, false, false, false, false, false, false, false, false, false, false, false, false, false] rfl rfl oK (fun _ _ _ h => h) (Or.inl ⟨by rfl, ?_⟩) ?_ ?_
     rotate_left
     ·intro w'
      go_simp
      (try simp only [hls])
      with_reducible rfl
     rotate_left
     ·exact oT
     refine pure_ (i := 7) (N := (some 31)) (v := ?_) (a' := ?_) #[true, true, true, true, true, true, true, true, false, false, false, false, false, false, false, false, false, false, false, false, false, false] rfl rfl oK (fun _ _ _ h => h) (Or.inl ⟨by rfl, ?_⟩) ?_ ?_
     rotate_left
     ·intro w'
      go_simp
      (try simp only [hls])
      with_reducible rfl
     rotate_left
     ·exact oT
     refine pure_ (i := 8) (N := (some 32)) (v := ?_) (a' := ?_) #[true, true, true, true, true, true, true, true, true, false, false, false, false, false, false, false, false, false, false, false, false, false] rfl rfl oK (fun _ _ _ h => h) (Or.inl ⟨by rfl, ?_⟩) ?_ ?_
     rotate_left
     ·intro w'
      go_simp
      (try simp only [hls])
      with_reducible rfl
     rotate_left
     ·exact oT
     refine take_ (i := 9) (N := (some 33)) (v := ?_) (a' := ?_) #[true, true, true, true, true, true, true, true, true, true, false, false, false, false, false, false, false, false, false, false, false, false] rfl rfl oK (fun _ _ _ h => h) (Or.inl ⟨by rfl, ?_⟩) hHeld ?_ ?_
     rotate_left
     ·intro w' s0
      go_simp
      (try simp only [hls])
      with_reducible rfl
     rotate_left
     ·exact oT
     refine pure_ (i := 10) (N := (some 34)) (v := ?_) (a' := ?_) #[true, true, true, true, true, true, true, true, true, true, true, false, false, false, false, false, false, false, false, false, false, false] rfl rfl oK (fun _ _ _ h => h) (Or.inl ⟨by rfl, ?_⟩) ?_ ?_
     rotate_left
     ·intro w'
      go_simp
      (try simp only [hls])
      with_reducible rfl
     rotate_left
     ·exact oT
     refine pure_ (i := 11) (N := (some 35)) (v := ?_) (a' := ?_) #[true, true, true, true, true, true, true, true, true, true, true, true, false, false, false, false, false, false, false, false, false, false] rfl rfl oK (fun _ _ _ h => h) (Or.inl ⟨by rfl, ?_⟩) ?_ ?_
     rotate_left
     ·intro w'
      go_simp
      (try simp only [hls])
      with_reducible rfl
     rotate_left
     ·exact oT
     refine pure_ (i := 12) (N := (some 36)) (v := ?_) (a' := ?_) #[true, true, true, true, true, true, true, true, true, true, true, true, true, false, false, false, false, false, false, false, false, false] rfl rfl oK (fun _ _ _ h => h) (Or.inl ⟨by rfl, ?_⟩) ?_ ?_
     rotate_left
     ·intro w'
      go_simp
      (try simp only [hls])
      with_reducible rfl
     rotate_left
     ·exact oT
     refine pure_ (i := 13) (N := (some 37)) (v := ?_) (a' := ?_) #[true, true, true, true, true, true, true, true, true, true, true, true, true, true, false, false, false, false, false, false, false, false] rfl rfl oK (fun _ _ _ h => h) (Or.inl ⟨by rfl, ?_⟩) ?_ ?_
     rotate_left
     ·intro w'
      go_simp
      (try simp only [hls])
      with_reducible rfl
     rotate_left
     ·exact oT
     refine take_ (i := 14) (N := (some 38)) (v := ?_) (a' := ?_) #[true, true, true, true, true, true, true, true, true, true, true, true, true, true, true, false, false, false, false, false, false, false] rfl rfl oK (fun _ _ _ h => h) (Or.inl ⟨by rfl, ?_⟩) hHeld ?_ ?_
     rotate_left
     ·intro w' s0
      go_simp
      (try simp only [hls])
      with_reducible rfl
     rotate_left
     ·exact oT
     refine pure_ (i := 15) (N := (some 39)) (v := ?_) (a' := ?_) #[true, true, true, true, true, true, true, true, true, true, true, true, true, true, true, true, false, false, false, false, false, false] rfl rfl oK (fun _ _ _ h => h) (Or.inl ⟨by rfl, ?_⟩) ?_ ?_
     rotate_left
     ·intro w'
      go_simp
      (try simp only [hls])
      with_reducible rfl
     rotate_left
     ·exact oT
     refine pure_ (i := 16) (N := (some 40)) (v := ?_) (a' := ?_) #[true, true, true, true, true, true, true, true, true, true, true, true, true, true, true, true, true, false, false, false, false, false] rfl rfl oK (fun _ _ _ h => h) (Or.inl ⟨by rfl, ?_⟩) ?_ ?_
     rotate_left
     ·intro w'
      go_simp
      (try simp only [hls])
      with_reducible rfl
     rotate_left
     ·exact oT
     refine one_ (i := 17) (N := (some 41)) #[true, true, true, true, true, true, true, true, true, true, true, true, true, true, true, true, true, true, false, false, false, false] rfl rfl oK oD (fun K hK => ?_)
     refine event_step (v := .slice (some ⟨w1.heap.size, 0, none⟩) 1 1) (w1 := w1.alloc (.cells #[.int .i64 la, .int .i64 (ls + 1)] 68 (0, 0))) (by rfl) oS ?_
     have HP2 := Aside0.mk (HP1.out.alloc (.cells #[.int .i64 la, .int .i64 (ls + 1)] 68 (0, 0)))
     have kd0 := HP2.out.cell 0
     have kd1 := HP2.out.cell 1
     have kd2 := HP2.out.cell 2
     have kd3 := HP2.out.cell 3
     simp only [List.getElem?_toArray, List.getElem?_cons_zero, List.getElem?_cons_succ] at kd0 kd1 kd2 kd3
     refine hK.out _ _ ⟨kd1, kd2, kd3⟩ (fun hHeld2 => ?_)
     clear hK K
     refine norm_ (a' := ?_) ?_ ?_
     rotate_left
     ·show Act.put _ (some 41) _ = _
      exact oT
     refine one_ (i := 18) (N := (some 42)) #[true, true, true, true, true, true, true, true, true, true, true, true, true, true, true, true, true, true, true, false, false, false] rfl rfl oK oD (fun K hK => ?_)
     refine Kd.R_append_step k36 (w0 := w0) w0.heap.size (by rfl) (.tmp 28) (.tmp 41) 66 68 (.agg #[(.int .i64 0), (.int .i64 0)]) 16 rfl Try.underlying66 pk_info68 rfl oD (by omega) (.slice As sp.length cs) sp (⟨la, ls + 1⟩ : S36) [.int .i64 la, .int .i64 (ls + 1)] (fun _ => True) (fun _ => False) rfl rfl ?aP (fun _ h => h.elim) (fun _ _ => trivial) ?aO ?aB ?aS ?aL ?_
     case aP => exact k36_mkM _ _ _ (⟨la, ls + 1⟩ : S36)
     case aO => exact HS1.out
     case aB => exact HP1.out.2.2.2
     case aS => exact HP1.out.2.2.2.size
     case aL => omega
     intro vb wb ho hb hgb hat
     generalize hsx : sp ++ [(⟨la, ls + 1⟩ : S36)] = sx at ho
     obtain ⟨Ab, cb, rfl⟩ := Kd.R_slice ho
     have HP3 := Aside0.mk (HP1.out.over HS1.out oD oD hgb hb)
     have aJ := Aside0.mk (Kd.R_over' aA.out (Kd.R_typed HS1.out) oD hgb)
     have HS3 := Aside0.mk ho
     clear ho hb hgb hat
     have ke0 := HP3.out.cell 0
     have ke1 := HP3.out.cell 1
     have ke2 := HP3.out.cell 2
     have ke3 := HP3.out.cell 3
     simp only [List.getElem?_toArray, List.getElem?_cons_zero, List.getElem?_cons_succ] at ke0 ke1 ke2 ke3
     have kef1 := HP3.out.frozen 1
     refine hK.out _ _ ⟨ke1, ke2, ke3⟩ (fun hHeld3 => ?_)
     clear hK K
     refine norm_ (a' := ?_) ?_ ?_
     rotate_left
     ·show Act.put _ (some 42) _ = _
      exact oT
     refine pure_ (i := 19) (N := (some 43)) (v := ?_) (a' := ?_) #[true, true, true, true, true, true, true, true, true, true, true, true, true, true, true, true, true, true, true, true, false, false] rfl rfl oK (fun _ _ _ h => h) (Or.inl ⟨by rfl, ?_⟩) ?_ ?_
     rotate_left
     ·intro w'
      go_simp
      (try simp only [hls])
      with_reducible rfl
     rotate_left
     ·exact oT
     refine pure_ (i := 20) (N := (some 44)) (v := ?_) (a' := ?_) #[true, true, true, true, true, true, true, true, true, true, true, true, true, true, true, true, true, true, true, true, true, false] rfl rfl oK (fun _ _ _ h => h) (Or.inl ⟨by rfl, ?_⟩) ?_ ?_
     rotate_left
     ·intro w'
      go_simp
      (try simp only [hls])
      with_reducible rfl
     rotate_left
     ·exact oT
     refine last_ (i := 21) (N := none) #[true, true, true, true, true, true, true, true, true, true, true, true, true, true, true, true, true, true, true, true, true, true] rfl rfl oK oD (fun K hK => ?_)
     refine skip_ (w1 := ?_) (by rfl) rfl ?_ ?_
     rotate_left
     ·go_simp
      rfl
     refine hK.out _ _ ?_
     clear hK K
     try simp only [Act.put, List.setIfInBounds_toArray, List.set_cons_zero, List.set_cons_succ]
     refine done_ oK ?_
     go_wp2_with (fail)
     go_meet
     case rel =>
      refine ⟨_, ⟨HP3.out.set 1 _ rfl⟩, ⟨HP3.out.row aJ.out oD 1 _⟩, ⟨?_⟩⟩
      have := HP3.out.row HS3.out oD 1 (.slice Ab sx.length cb)
      rw [show pk_grow o sp la ls = sp ++ [⟨la, ls + 1⟩] by unfold pk_grow; rw [if_pos hgr], hsx]
      exact this
    ·have hd : decide (0 < o.length ∧ 257 + sp.length < 512) = false := decide_eq_false hgr
     rw [hd]
     go_wp2_with (fail)
     go_meet
     case rel => exact ⟨_, HP, HL, ⟨(by rw [show pk_grow o sp la ls = sp by unfold pk_grow; rw [if_neg hgr]]; exact HS.out)⟩⟩
   case rest =>
    obtain ⟨vs', HP4, aI, HS4⟩ := hcut
    clear HP HL HS aH aT aU aV
    have hgl : (pk_grow o sp la ls).length ≤ sp.length + 1 := by unfold pk_grow; split <;> simp
    generalize pk_grow o sp la ls = sp' at H HS4 hgl
    obtain ⟨As', cs', rfl⟩ := Kd.R_slice HS4.out
    have kc0 := HP4.out.cell 0
    have kc1 := HP4.out.cell 1
    have kc2 := HP4.out.cell 2
    have kc3 := HP4.out.cell 3
    simp only [List.getElem?_toArray, List.getElem?_cons_zero, List.getElem?_cons_succ] at kc0 kc1 kc2 kc3
    have kf0 := HP4.out.frozen 0
    have kf2 := HP4.out.frozen 2
    have kf3 := HP4.out.frozen 3
    go_upto_block 0 with (fail)
    go_cut [] (fun wx => ∃ (o' : List Int) (vl' : Value), Aside0 (res = some (o', sp')) ∧ Aside0 (PkB w0 wx g gi xi #[vl', .slice As' sp'.length cs', .int .i64 la, .int .i64 ls]) ∧ Aside0 (Kd.R (Kd.int .u8) 5 wx w0.heap.size (fun _ => True) vl' o') ∧ Aside0 (Kd.R k36 68 wx w0.heap.size (fun _ => True) (.slice As' sp'.length cs') sp') ∧ Aside0 (o'.length ≤ o.length + 1000))
    case first =>
     by_cases a1 : c < 256
     ·have H1 := H.out
      rw [if_pos a1] at H1
      have H2 := Aside0.mk (Option.some.inj H1)
      clear H1
      have da1 : decide (c < 256) = true := decide_eq_true a1
      go_wp2_with ((with_reducible refine gate_builtin (b := .append) (xs := #[.tmp 52, .tmp 55]) rfl ?_); (try (refine gate_guard (by rfl) ?_; dsimp only)); at_builtin; refine Kd.R_append (Kd.int .u8) (w0 := w0) w0.heap.size rfl (.tmp 52) (.tmp 55) 24 5 (.int .u8 0) 1 rfl Try.underlying24 info5 rfl oD (by omega) (.slice Al o.length cl) o (c) [.int .u8 (c)] (fun _ => True) (fun _ => False) rfl rfl ?aP (fun _ hk => hk.elim) ?aF ?aO ?aB ?aS ?aL ?_; (case aP => exact rfl); (case aB => exact HP4.out.2.2.2); (case aF => exact (fun _ _ => trivial)); (case aO => exact aI.out); (case aS => exact HP4.out.2.2.2.size); (case aL => omega); intro va wa ho hb hga hat; generalize hlx : o ++ [c] = lx at ho; obtain ⟨Aa, ca, rfl⟩ := Kd.R_slice ho; have HPa := Aside0.mk (HP4.out.over aI.out oD oD hga hb); have HSa := Aside0.mk (Kd.R_over' HS4.out (Kd.R_typed aI.out) oD hga); have HLa := Aside0.mk ho; clear ho hb hga hat; have ka0 := HPa.out.cell 0; simp only [List.getElem?_toArray, List.getElem?_cons_zero] at ka0; have kaf := HPa.out.frozen 0)
      go_meet
      case rel => exact ⟨lx, .slice Aa lx.length ca, ⟨(by rw [← hlx]; exact H2.out.symm)⟩, ⟨HPa.out.set 0 _ rfl⟩, ⟨HPa.out.row HLa.out oD 0 _⟩, ⟨HPa.out.row HSa.out oD 0 _⟩, ⟨(by rw [← hlx, List.length_append, List.length_singleton]; omega)⟩⟩
     ·have da1 : decide (c < 256) = false := decide_eq_false a1
      have H1 := H.out
      rw [if_neg a1] at H1
      have hw2 : IntKind.i64.wrap (c - 257) = c - 257 := by rw [i64_w]; unfold wrap64; omega
      by_cases a2 : 257 ≤ c ∧ c - 257 < (sp'.length : Int)
      ·rw [if_pos a2] at H1
       have da2 : decide (257 ≤ c) = true := decide_eq_true a2.1
       have da3 : decide (c - 257 < (sp'.length : Int)) = true := decide_eq_true a2.2
       obtain ⟨ad, had, ce0, ce1⟩ := at_T36 (Kd.R_reads' HS4.out).2.2 (c - 257) (by omega) a2.2
       cases had
       have bA : (0 ≤ c - 257) = True := eq_true (by omega)
       have bB : (c - 257 < (sp'.length : Int)) = True := eq_true a2.2
       have bC : ((c - 257).toNat < sp'.length) = True := eq_true (by omega)
       generalize rd_T36 sp' (c - 257) = px at H1 ce0 ce1
       have HX := Aside0.mk H1
       clear H1
       by_cases a4 : 0 ≤ px.f1 ∧ px.f1 ≤ 1000
       ·have H1 := HX.out
        rw [if_pos a4] at H1
        obtain ⟨oN, hcp, H1⟩ := Option.bind_eq_some_iff.mp H1
        have HR := Aside0.mk (Option.some.inj H1)
        have HC := Aside0.mk hcp
        clear H1 hcp HX
        have HN := Aside0.mk (pk_copy_len _ _ _ _ _ HC.out)
        generalize hgs : wc.heap.size = gs
        go_wp2_with (fail)
        try rw [hgs]
        have HGS : Aside0 ((wc.alloc (.cells #[.int .i64 px.f0, .int .i64 px.f1] 68 (0, 0))).heap[gs]? = some (.cells #[.int .i64 px.f0, .int .i64 px.f1] 68 (0, 0))) := ⟨(by rw [← hgs]; exact blk_new _ _)⟩
        have HPx := Aside0.mk (HP4.out.alloc (.cells #[.int .i64 px.f0, .int .i64 px.f1] 68 (0, 0)))
        have HLx := Aside0.mk (Kd.R_alloc aI.out (.cells #[.int .i64 px.f0, .int .i64 px.f1] 68 (0, 0)))
        have HSx := Aside0.mk (Kd.R_alloc HS4.out (.cells #[.int .i64 px.f0, .int .i64 px.f1] 68 (0, 0)))
        have HNE : Aside0 (gs ≠ g) := ⟨(by have := blk_lt HP4.out.1; omega)⟩
        clear ce0 ce1 kc0 kc1 kc2 kc3 kf0 kf2 kf3
        go_loopw [7, 82] (fun v7 bD wr => ∃ (i : Nat) (oi : List Int) (vi : Value), i ≤ px.f1.toNat ∧ bD = .int .i64 (i : Int) ∧ Aside0 (pk_copy px.f0 (px.f1.toNat - i) i oi = some oN) ∧ Aside0 (PkB w0 wr g gi xi #[vi, .slice (some ad) sp'.length cs', .int .i64 la, .int .i64 ls]) ∧ Aside0 (Kd.R (Kd.int .u8) 5 wr w0.heap.size (fun _ => True) vi oi) ∧ Aside0 (Kd.R k36 68 wr w0.heap.size (fun _ => True) (.slice (some ad) sp'.length cs') sp') ∧ Aside0 (wr.heap[gs]? = some (.cells #[.int .i64 px.f0, .int .i64 px.f1] 68 (0, 0))) ∧ Aside0 (oi.length = o.length + i)) (fun _ i _ => px.f1.toNat - (intOf i).toNat)
        case atStart => exact ⟨0, o, _, Nat.zero_le _, rfl, HC, HPx, HLx, HSx, HGS, ⟨rfl⟩⟩
        case round =>
         obtain ⟨i, oi, vi, hi, rfl, aN, HP6, aK, HS6, HG6, HM6⟩ := hrel
         rename World => wi
         have b0 := a4.1
         have b1 := a4.2
         by_cases hlt : i < px.f1.toNat
         ·have dlt : decide ((i : Int) < px.f1) = true := decide_eq_true (by omega)
          have hcc := aN.out
          rw [show px.f1.toNat - i = (px.f1.toNat - (i + 1)) + 1 by omega] at hcc
          unfold pk_copy at hcc
          by_cases hz : 0 ≤ px.f0 ∧ px.f0 + (i : Int) < (oi.length : Int) ∧ oi.length ≤ 100000
          ·rw [if_pos hz] at hcc
           obtain ⟨z0, z1, z2⟩ := hz
           have aY := Aside0.mk hcc
           clear hcc
           obtain ⟨Ai, ci, rfl⟩ := Kd.R_slice aK.out
           have HP7 := Aside0.mk HP6.out.drew
           have aD := Aside0.mk (Kd.R_drew aK.out)
           have HS7 := Aside0.mk (Kd.R_drew HS6.out)
           have HG7 := Aside0.mk (blk_drew HG6.out)
           have kc0 := HP7.out.cell 0
           have ks0 := blk_cell HG7.out 0
           simp only [List.getElem?_toArray, List.getElem?_cons_zero, List.getElem?_cons_succ] at kc0 ks0
           obtain ⟨ai, hai, hel⟩ := Kd.at_int (Kd.R_reads' aD.out).2.2 (px.f0 + (i : Int)) (by omega) (by omega)
           cases hai
           have hw7 : IntKind.i64.wrap (px.f0 + (i : Int)) = px.f0 + (i : Int) := by rw [i64_w]; unfold wrap64; omega
           have aW : 0 ≤ px.f0 + (i : Int) := by omega
           have aX : px.f0 + (i : Int) < (oi.length : Int) := by omega
           replace aW := eq_true aW
           replace aX := eq_true aX
           have HH := Aside0.mk (And.intro z0 (And.intro z1 z2))
           clear z0 z1 z2
           go_wp2_with (fail)
           refine start_ (n := 20) (S := fun w' => w'.cell? ⟨g, 0, none⟩ = some (.slice (some ai) oi.length ci) ∧ w'.cell? ⟨gs, 0, none⟩ = some (.int .i64 px.f0) ∧ w'.cell? (ai.add (px.f0 + (i : Int)).toNat) = some (.int .u8 (rd oi (px.f0 + (i : Int))))) (ds := [16, 19]) #[false, false, false, false, false, false, false, false, false, false, false, false, false, false, false, false, false, false, false, false] oK rfl rfl ⟨kc0, ks0, hel⟩ (fun hHeld => ?_)
           generalize wi.drew = wj at HP7 aD HS7 HG7 kc0 ks0 hel hHeld ⊢
           refine pure_ (i := 0) (N := (some 85)) (v := ?_) (a' := ?_) #[true, false, false, false, false, false, false, false, false, false, false, false, false, false, false, false, false, false, false, false] rfl rfl oK (fun _ _ _ h => h) (Or.inl ⟨by rfl, ?_⟩) ?_ ?_
           rotate_left
           ·intro w'
            go_simp
            (try simp only [hw7])
            with_reducible rfl
           rotate_left
           ·exact oT
           refine pure_ (i := 1) (N := (some 86)) (v := ?_) (a' := ?_) #[true, true, false, false, false, false, false, false, false, false, false, false, false, false, false, false, false, false, false, false] rfl rfl oK (fun _ _ _ h => h) (Or.inl ⟨by rfl, ?_⟩) ?_ ?_
           rotate_left
           ·intro w'
            go_simp
            (try simp only [hw7])
            with_reducible rfl
           rotate_left
           ·exact oT
           refine pure_ (i := 2) (N := (some 87)) (v := ?_) (a' := ?_) #[true, true, true, false, false, false, false, false, false, false, false, false, false, false, false, false, false, false, false, false] rfl rfl oK (fun _ _ _ h => h) (Or.inl ⟨by rfl, ?_⟩) ?_ ?_
           rotate_left
           ·intro w'
            go_simp
            (try simp only [hw7])
            with_reducible rfl
           rotate_left
           ·exact oT
           refine pure_ (i := 3) (N := (some 88)) (v := ?_) (a' := ?_) #[true, true, true, true, false, false, false, false, false, false, false, false, false, false, false, false, false, false, false, false] rfl rfl oK (fun _ _ _ h => h) (Or.inl ⟨by rfl, ?_⟩) ?_ ?_
           rotate_left
           ·intro w'
            go_simp
            (try simp only [hw7])
            with_reducible rfl
           rotate_left
           ·exact oT
           refine take_ (i := 4) (N := (some 89)) (v := ?_) (a' := ?_) #[true, true, true, true, true, false, false, false, false, false, false, false, false, false, false, false, false, false, false, false] rfl rfl oK (fun _ _ _ h => h) (Or.inl ⟨by rfl, ?_⟩) hHeld ?_ ?_
           rotate_left
           ·intro w' s0
            go_simp
            (try simp only [hw7])
            with_reducible rfl
           rotate_left
           ·exact oT
           refine pure_ (i := 5) (N := (some 90)) (v := ?_) (a' := ?_) #[true, true, true, true, true, true, false, false, false, false, false, false, false, false, false, false, false, false, false, false] rfl rfl oK (fun _ _ _ h => h) (Or.inl ⟨by rfl, ?_⟩) ?_ ?_
           rotate_left
           ·intro w'
            go_simp
            (try simp only [hw7])
            with_reducible rfl
           rotate_left
           ·exact oT
           refine pure_ (i := 6) (N := (some 91)) (v := ?_) (a' := ?_) #[true, true, true, true, true, true, true, false, false, false, false, false, false, false, false, false, false, false, false, false] rfl rfl oK (fun _ _ _ h => h) (Or.inl ⟨by rfl, ?_⟩) ?_ ?_
           rotate_left
           ·intro w'
            go_simp
            (try simp only [hw7])
            with_reducible rfl
           rotate_left
           ·exact oT
           refine pure_ (i := 7) (N := (some 92)) (v := ?_) (a' := ?_) #[true, true, true, true, true, true, true, true, false, false, false, false, false, false, false, false, false, false, false, false] rfl rfl oK (fun _ _ _ h => h) (Or.inl ⟨by rfl, ?_⟩) ?_ ?_
           rotate_left
           ·intro w'
            go_simp
            (try simp only [hw7])
            with_reducible rfl
           rotate_left
           ·exact oT
           refine take_ (i := 8) (N := (some 93)) (v := ?_) (a' := ?_) #[true, true, true, true, true, true, true, true, true, false, false, false, false, false, false, false, false, false, false, false] rfl rfl oK (fun _ _ _ h => h) (Or.inl ⟨by rfl, ?_⟩) hHeld ?_ ?_
           rotate_left
           ·intro w' s0
            go_simp
            (try simp only [hw7])
            with_reducible rfl
           rotate_left
           ·exact oT
           refine pure_ (i := 9) (N := (some 94)) (v := ?_) (a' := ?_) #[true, true, true, true, true, true, true, true, true, true, false, false, false, false, false, false, false, false, false, false] rfl rfl oK (fun _ _ _ h => h) (Or.inl ⟨by rfl, ?_⟩) ?_ ?_
           rotate_left
           ·intro w'
            go_simp
            (try simp only [hw7])
            with_reducible rfl
           rotate_left
           ·exact oT
           refine take_ (i := 10) (N := (some 95)) (v := ?_) (a' := ?_) #[true, true, true, true, true, true, true, true, true, true, true, false, false, false, false, false, false, false, false, false] rfl rfl oK (fun _ _ _ h => h) (Or.inl ⟨by rfl, ?_⟩) hHeld ?_ ?_
           rotate_left
           ·intro w' s0
            go_simp
            (try simp only [hw7])
            with_reducible rfl
           rotate_left
           ·exact oT
           refine pure_ (i := 11) (N := (some 96)) (v := ?_) (a' := ?_) #[true, true, true, true, true, true, true, true, true, true, true, true, false, false, false, false, false, false, false, false] rfl rfl oK (fun _ _ _ h => h) (Or.inl ⟨by rfl, ?_⟩) ?_ ?_
           rotate_left
           ·intro w'
            go_simp
            (try simp only [hw7])
            with_reducible rfl
           rotate_left
           ·exact oT
           refine pure_ (i := 12) (N := (some 97)) (v := ?_) (a' := ?_) #[true, true, true, true, true, true, true, true, true, true, true, true, true, false, false, false, false, false, false, false] rfl rfl oK (fun _ _ _ h => h) (Or.inl ⟨by rfl, ?_⟩) ?_ ?_
           rotate_left
           ·intro w'
            go_simp
            (try simp only [hw7])
            with_reducible rfl
           rotate_left
           ·exact oT
           refine pure_ (i := 13) (N := (some 98)) (v := ?_) (a' := ?_) #[true, true, true, true, true, true, true, true, true, true, true, true, true, true, false, false, false, false, false, false] rfl rfl oK (fun _ _ _ h => h) (Or.inl ⟨by rfl, ?_⟩) ?_ ?_
           rotate_left
           ·intro w'
            go_simp
            (try simp only [hw7])
            with_reducible rfl
           rotate_left
           ·exact oT
           refine take_ (i := 14) (N := (some 99)) (v := ?_) (a' := ?_) #[true, true, true, true, true, true, true, true, true, true, true, true, true, true, true, false, false, false, false, false] rfl rfl oK (fun _ _ _ h => h) (Or.inl ⟨by rfl, ?_⟩) hHeld ?_ ?_
           rotate_left
           ·intro w' s0
            go_simp
            (try simp only [hw7])
            with_reducible rfl
           rotate_left
           ·exact oT
           refine one_ (i := 15) (N := (some 100)) #[true, true, true, true, true, true, true, true, true, true, true, true, true, true, true, true, false, false, false, false] rfl rfl oK oD (fun K hK => ?_)
           refine event_step (v := .slice (some ⟨wj.heap.size, 0, none⟩) 1 1) (w1 := wj.alloc (.cells #[.int .u8 (rd oi (px.f0 + (i : Int)))] 5 (0, 0))) (by rfl) oS ?_
           have hbA := below_alloc (Below.refl wj.heap.size wj) (.cells #[.int .u8 (rd oi (px.f0 + (i : Int)))] 5 (0, 0))
           refine hK.out _ _ ⟨(hbA.cell (World.block_lt_of_cell? _ _ kc0)).trans kc0, (hbA.cell (World.block_lt_of_cell? _ _ ks0)).trans ks0, (hbA.cell (World.block_lt_of_cell? _ _ hel)).trans hel⟩ (fun hHeld2 => ?_)
           clear hK K
           refine norm_ (a' := ?_) ?_ ?_
           rotate_left
           ·show Act.put _ (some 100) _ = _
            exact oT
           refine last_ (i := 16) (N := (some 101)) #[true, true, true, true, true, true, true, true, true, true, true, true, true, true, true, true, true, false, false, false] rfl rfl oK oD (fun K hK => ?_)
           refine Kd.R_append_step (Kd.int .u8) (w0 := w0) w0.heap.size (by rfl) (.tmp 89) (.tmp 100) 24 5 (.int .u8 0) 1 rfl Try.underlying24 info5 rfl oD (by omega) (.slice (some ai) oi.length ci) oi (rd oi (px.f0 + (i : Int))) [.int .u8 (rd oi (px.f0 + (i : Int)))] (fun _ => True) (fun _ => False) rfl rfl rfl (fun _ h => h.elim) (fun _ _ => trivial) aD.out HP7.out.2.2.2 HP7.out.2.2.2.size (by have := HH.out; omega) ?_
           intro vb wb ho hb hgb hat
           generalize hsx : oi ++ [rd oi (px.f0 + (i : Int))] = ox at ho
           obtain ⟨Ab, cb, rfl⟩ := Kd.R_slice ho
           have HP8 := Aside0.mk (HP7.out.over aD.out oD oD hgb hb)
           have HS8 := Aside0.mk (Kd.R_over' HS7.out (Kd.R_typed aD.out) oD hgb)
           have HG8 := Aside0.mk (blk_grown HG7.out hgb (pk_ne HG7.out (Kd.R_typed aD.out) oD))
           have aZ := Aside0.mk ho
           clear ho hb hgb hat
           have ke0 := HP8.out.cell 0
           have ke1 := HP8.out.cell 1
           have ke2 := HP8.out.cell 2
           have ke3 := HP8.out.cell 3
           simp only [List.getElem?_toArray, List.getElem?_cons_zero, List.getElem?_cons_succ] at ke0 ke1 ke2 ke3
           have kef0 := HP8.out.frozen 0
           refine hK.out _ _ ?_
           clear hK K
           refine norm_ (a' := ?_) ?_ ?_
           rotate_left
           ·show Act.put _ (some 101) _ = _
            exact oT
           refine pure_ (i := 17) (N := (some 102)) (v := ?_) (a' := ?_) #[true, true, true, true, true, true, true, true, true, true, true, true, true, true, true, true, true, true, false, false] rfl rfl oK (fun _ _ _ h => h) (Or.inl ⟨by rfl, ?_⟩) ?_ ?_
           rotate_left
           ·intro w'
            go_simp
            (try simp only [hw7])
            with_reducible rfl
           rotate_left
           ·exact oT
           refine pure_ (i := 18) (N := (some 103)) (v := ?_) (a' := ?_) #[true, true, true, true, true, true, true, true, true, true, true, true, true, true, true, true, true, true, true, false] rfl rfl oK (fun _ _ _ h => h) (Or.inl ⟨by rfl, ?_⟩) ?_ ?_
           rotate_left
           ·intro w'
            go_simp
            (try simp only [hw7])
            with_reducible rfl
           rotate_left
           ·exact oT
           refine last_ (i := 19) (N := none) #[true, true, true, true, true, true, true, true, true, true, true, true, true, true, true, true, true, true, true, true] rfl rfl oK oD (fun K hK => ?_)
           refine skip_ (w1 := ?_) (by rfl) rfl ?_ ?_
           rotate_left
           ·go_simp
            rfl
           refine hK.out _ _ ?_
           clear hK K
           try simp only [Act.put, List.setIfInBounds_toArray, List.set_cons_zero, List.set_cons_succ]
           refine done_ oK ?_
           go_wp2_with (fail)
           go_roundw
           case rel => exact ⟨i + 1, ox, .slice Ab ox.length cb, by omega, by go_num, ⟨(by rw [← hsx]; exact aY.out)⟩, ⟨HP8.out.set 0 _ rfl⟩, ⟨HP8.out.row aZ.out oD 0 _⟩, ⟨HP8.out.row HS8.out oD 0 _⟩, ⟨blk_far HG8.out (p := ⟨g, 0, none⟩) HNE.out _⟩, ⟨(by rw [← hsx, List.length_append, List.length_singleton]; have := HM6.out; omega)⟩⟩
           case measure => simp [intOf]; omega
          ·rw [if_neg hz] at hcc; cases hcc
         ·have dlt : decide ((i : Int) < px.f1) = false := decide_eq_false (by omega)
          obtain rfl : i = px.f1.toNat := by omega
          have hcc := aN.out
          rw [Nat.sub_self] at hcc
          have hoo := Option.some.inj (show some oi = some oN from hcc)
          subst hoo
          go_wp2_with (fail)
          go_meet
          case rel => exact ⟨oi, vi, ⟨HR.out.symm⟩, HP6, aK, HS6, ⟨(by have := HM6.out; omega)⟩⟩
       ·have H1 := HX.out
        rw [if_neg a4] at H1; cases H1
      ·rw [if_neg a2] at H1
       have H2 := Aside0.mk (Option.some.inj H1)
       clear H1
       by_cases a3 : 257 ≤ c
       ·have da2 : decide (257 ≤ c) = true := decide_eq_true a3
        have da3 : decide (c - 257 < (sp'.length : Int)) = false := decide_eq_false (by omega)
        go_wp2_with (fail)
        go_ret
        exact ⟨by rw [← H2.out]; rfl, HP4.out.2.2.2, HP4.out.2.1, fun o' sp' h_ => by rw [← H2.out] at h_; cases h_⟩
       ·have da2 : decide (257 ≤ c) = false := decide_eq_false a3
        go_wp2_with (fail)
        go_ret
        exact ⟨by rw [← H2.out]; rfl, HP4.out.2.2.2, HP4.out.2.1, fun o' sp' h_ => by rw [← H2.out] at h_; cases h_⟩
    case rest =>
     obtain ⟨o', vl', aR, HP5, aQ, HS5, HN5⟩ := hcut
     obtain ⟨Al', cl', rfl⟩ := Kd.R_slice aQ.out
     have kg0 := HP5.out.cell 0
     have kg1 := HP5.out.cell 1
     have kg2 := HP5.out.cell 2
     have kg3 := HP5.out.cell 3
     simp only [List.getElem?_toArray, List.getElem?_cons_zero, List.getElem?_cons_succ] at kg0 kg1 kg2 kg3
     have kg_2 := HP5.out.frozen 2
     have kg_3 := HP5.out.frozen 3
     have bE := HN5.out
     have hw5 : IntKind.i64.wrap ((o'.length : Int) - (o.length : Int)) = (o'.length : Int) - (o.length : Int) := by rw [i64_w]; unfold wrap64; omega
     go_wp2_with (fail)
     go_ret
     have HPy := HP5.out.set 2 (.int .i64 (o.length : Int)) rfl
     have HPz := HPy.set 3 (.int .i64 ((o'.length : Int) - (o.length : Int))) rfl
     refine ⟨by rw [aR.out]; rfl, HPz.2.2.2, HPz.2.1, fun o2 sp2 h2 => ?_⟩
     rw [aR.out] at h2
     injection h2 with h2
     injection h2 with h3 h4
     subst h3 h4
     exact ⟨_, _, HPz, HPy.row (HP5.out.row aQ.out oD 2 _) oD 3 _, HPy.row (HP5.out.row HS5.out oD 2 _) oD 3 _⟩
 ·rw [if_neg hG] at h; cases h
mutual
def impl_PakGet.l0 : Nat → List Int → Int → Bool → List Int → List S36 → Int → Int → Option (List Int × Bool)
 | 0, _, _, _, _, _, _, _ => none
 | k + 1, l, t, ft, o, sp, la, ls => (impl_bitReader_get.f k l t ft 9).bind fun q => if q.2.2 = true then some ([], false) else if q.1 = 256 then ((impl_pakTail.f l q.2.1).bind fun b => if b = true then some (o, true) else some ([], false)) else ((pk_take o sp la ls q.1).bind fun r => impl_PakGet.j0 k l q.2.1 q.2.2 o r)
def impl_PakGet.j0 : Nat → List Int → Int → Bool → List Int → Option (List Int × List S36) → Option (List Int × Bool)
 | 0, _, _, _, _, _ => none
 | k + 1, l, t, ft, o, r => if pk_fits r = true then impl_PakGet.l0 k l t ft (r.getD ([], [])).1 (r.getD ([], [])).2 (o.length : Int) (((r.getD ([], [])).1.length : Int) - (o.length : Int)) else some ([], false)
end
def impl_PakGet.f (k : Nat) (l : List Int) : Option (List Int × Bool) := impl_PakGet.l0 k l 0 false [] [] 0 0
theorem impl_PakGet.mono_l : ∀ k, (∀ l t ft o sp la ls, LeO (impl_PakGet.l0 k l t ft o sp la ls) (impl_PakGet.l0 (k + 1) l t ft o sp la ls)) ∧ (∀ l t ft o r, LeO (impl_PakGet.j0 k l t ft o r) (impl_PakGet.j0 (k + 1) l t ft o r))
 | 0 => ⟨(fun _ _ _ _ _ _ _ r h => nomatch (show none = some r from h)), (fun _ _ _ _ _ r h => nomatch (show none = some r from h))⟩
 | k + 1 => by
  obtain ⟨ih0, ih1⟩ := impl_PakGet.mono_l k
  refine ⟨fun l t ft o sp la ls => ?_, fun l t ft o r => ?_⟩
  ·unfold impl_PakGet.l0
   exact LeO.bind (impl_bitReader_get.mono _ _ _ _ _) (fun q => LeO.ite (LeO.refl _) (LeO.ite (LeO.refl _) (LeO.bind (LeO.refl _) (fun r => ih1 _ _ _ _ _))))
  ·unfold impl_PakGet.j0
   exact LeO.ite (ih0 _ _ _ _ _ _ _) (LeO.refl _)
theorem impl_PakGet.mono : ∀ a0 k, LeO (impl_PakGet.f k a0) (impl_PakGet.f (k + 1) a0) := fun a0 k => (impl_PakGet.mono_l k).1 _ _ _ _ _ _ _
theorem pk_state {w0 w w1 : World} {g gi : Nat} {xi cs : Array Value} {f0 : List Int} {f1 : Int} {f2 : Bool} (h : PkB w0 w g gi xi cs) (hi : IsS61 w0 w1 gi f0 f1 f2) (hb : Below w0.heap.size w0 w1) (hk : KeepBut w w1 gi none) :
  ∃ A c, PkB w0 w1 g gi #[.slice A f0.length c, .int .i64 f1, .bool f2] cs ∧ Kd.C (Kd.int .u8) w0 A f0.length f0 := by
 obtain ⟨A, c, h1, h2, h3⟩ := hi
 exact ⟨A, c, ⟨hk.blk h.1 (Ne.symm h.ne) (by simp), h1, h.2.2.1, hb⟩, h3⟩
theorem pk_keep {α : Type} {d : Kd α} {w0 w w1 : World} {g gi e b : Nat} {xi cs : Array Value} {v : Value} {xs : List α} (h : PkB w0 w g gi xi cs) (hR : Kd.R d e w b (fun _ => True) v xs) (ht : ∀ q, q ∈ e :: d.E → q ≠ 61) (hk : KeepBut w w1 gi none) : Kd.R d e w1 b (fun _ => True) v xs :=
 Kd.R_mono (Kd.R_keep (Kd.R_types hR h.2.1 ht) hk (fun _ hk => hk.2)) (fun _ _ => trivial)
set_option maxHeartbeats 8000000 in
set_option maxRecDepth 100000 in
theorem impl_PakGet.calls (k : Nat) (A0 : Option Addr) (c0 : Nat) (l0 : List Int) (r1 : List Int) (r2 : Bool) (w : World) (hr0 : Kd.C (Kd.int .u8) w A0 l0.length l0) (aH : l0.length ≤ c0) (h : impl_PakGet.f k l0 = some (r1, r2)) :
  Calls Try.prog 30 #[.slice A0 l0.length c0] w fun e w' => ∃ v : Value, e = .returned (.tuple #[v, .bool r2]) ∧ Kd.R (Kd.int .u8) 5 w' w.heap.size (fun _ => True) v r1 ∧ Below w.heap.size w w' := by
 have hu61 := Try.underlying61
 have hu70 := Try.underlying70
 have hu68 := Try.underlying68
 have HC := Aside0.mk hr0
 have HCc := Aside0.mk aH
 clear hr0 aH
 unfold impl_PakGet.f at h
 have H := Aside0.mk h
 clear h
 go_enter Try.func30, Try.ntmps30
 have HPs : Aside0 (PkB w ((w.alloc (.cells #[.slice A0 l0.length c0, .int .i64 0, .bool false] 61 (0, 0))).alloc (.cells #[.slice none 0 0, .slice none 0 0, .int .i64 0, .int .i64 0] 70 (0, 0))) (w.heap.size + 1) w.heap.size #[.slice A0 l0.length c0, .int .i64 0, .bool false] #[.slice none 0 0, .slice none 0 0, .int .i64 0, .int .i64 0]) :=
  ⟨by simpa using heap_alloc_new (w.alloc (.cells #[.slice A0 l0.length c0, .int .i64 0, .bool false] 61 (0, 0))) (.cells #[.slice none 0 0, .slice none 0 0, .int .i64 0, .int .i64 0] 70 (0, 0)), blk_alloc (blk_new w _) _, by omega, below_alloc (below_alloc (Below.refl _ _) _) _⟩
 go_wp2_with (fail)
 go_loopg [6] k (fun kq v6 w' => ∃ (t : Int) (ft : Bool) (o : List Int) (sp : List S36) (la ls : Int) (vl vs : Value) (A : Option Addr) (c : Nat), Aside0 (impl_PakGet.l0 kq l0 t ft o sp la ls = some (r1, r2)) ∧ Aside0 (PkB w w' (w.heap.size + 1) w.heap.size #[.slice A l0.length c, .int .i64 t, .bool ft] #[vl, vs, .int .i64 la, .int .i64 ls]) ∧ Aside0 (Kd.C (Kd.int .u8) w A l0.length l0) ∧ Aside0 (Kd.R (Kd.int .u8) 5 w' w.heap.size (fun _ => True) vl o) ∧ Aside0 (Kd.R k36 68 w' w.heap.size (fun _ => True) vs sp))
 case atStart => exact ⟨0, false, [], [], 0, 0, _, _, A0, c0, H, HPs, HC, ⟨Kd.R_nil _ _ _ _ _⟩, ⟨Kd.R_nil _ _ _ _ _⟩⟩
 case round =>
  clear HPs
  obtain ⟨t, ft, o, sp, la, ls, vl, vs, A, c, HH, HP1, aE, aA, HS1⟩ := hrel
  rename World => wr
  cases gk with
  | zero => exact nomatch (show none = some _ from HH.out)
  | succ k1 =>
   have h := HH.out
   clear HH
   simp only [impl_PakGet.l0] at h
   obtain ⟨⟨q1, q2, q3⟩, hq, h⟩ := Option.bind_eq_some_iff.mp h
   have HQ := Aside0.mk hq
   clear hq
   dsimp only at h
   cases q3 with
   | true =>
    rw [if_pos rfl] at h
    simp only [Option.some.injEq, Prod.mk.injEq] at h
    obtain ⟨rfl, rfl⟩ := h
    go_wp2_with (go_at_call 45; refine (impl_bitReader_get.calls k1 w.heap.size l0 t ft 9 q1 q2 _ w _ ⟨A, c, HP1.out.2.1, Nat.le_refl _, aE.out⟩ HP1.out.2.2.2 HQ.out).mono ?_; rintro e w1 ⟨rfl, hi, hb, hk⟩; obtain ⟨A', c', hp2, ha2⟩ := pk_state HP1.out hi hb hk; have HP2 := Aside0.mk hp2; have aG := Aside0.mk ha2; have aC := Aside0.mk (pk_keep HP1.out aA.out oD hk); have HS2 := Aside0.mk (pk_keep HP1.out HS1.out oD hk); clear hi hb hk hp2 ha2; have kx1 := blk_cell HP2.out.2.1 1; have kx2 := blk_cell HP2.out.2.1 2; have ko0 := HP2.out.cell 0; simp only [List.getElem?_toArray, List.getElem?_cons_zero, List.getElem?_cons_succ] at kx1 kx2 ko0)
    go_ret2
    exact ⟨_, rfl, Kd.R_nil _ _ _ _ _, HP2.out.2.2.2⟩
   | false =>
    rw [if_neg oD] at h
    by_cases h6 : q1 = 256
    ·rw [if_pos h6] at h
     have d6 : (q1 == 256) = true := beq_iff_eq.mpr h6
     obtain ⟨b, hb, h⟩ := Option.bind_eq_some_iff.mp h
     have HB := Aside0.mk hb
     clear hb
     cases b with
     | true =>
      rw [if_pos rfl] at h
      simp only [Option.some.injEq, Prod.mk.injEq] at h
      obtain ⟨rfl, rfl⟩ := h
      go_wp2_with (first | (go_at_call 45; refine (impl_bitReader_get.calls k1 w.heap.size l0 t ft 9 q1 q2 _ w _ ⟨A, c, HP1.out.2.1, Nat.le_refl _, aE.out⟩ HP1.out.2.2.2 HQ.out).mono ?_; rintro e w1 ⟨rfl, hi, hb, hk⟩; obtain ⟨A', c', hp2, ha2⟩ := pk_state HP1.out hi hb hk; have HP2 := Aside0.mk hp2; have aG := Aside0.mk ha2; have aC := Aside0.mk (pk_keep HP1.out aA.out oD hk); have HS2 := Aside0.mk (pk_keep HP1.out HS1.out oD hk); clear hi hb hk hp2 ha2; have kx1 := blk_cell HP2.out.2.1 1; have kx2 := blk_cell HP2.out.2.1 2; have ko0 := HP2.out.cell 0; simp only [List.getElem?_toArray, List.getElem?_cons_zero, List.getElem?_cons_succ] at kx1 kx2 ko0) | (go_at_call 51; refine (impl_pakTail.calls A0 c0 l0 q2 true _ (Kd.C_below HC.out HP2.out.2.2.2) HCc.out HB.out).mono ?_; rintro e w3 ⟨rfl, ⟨nd, rfl⟩⟩))
      go_ret2
      exact ⟨_, rfl, Kd.R_drewN aC.out _, pw_below_drewN HP2.out.2.2.2 _⟩
     | false =>
      rw [if_neg oD] at h
      simp only [Option.some.injEq, Prod.mk.injEq] at h
      obtain ⟨rfl, rfl⟩ := h
      go_wp2_with (first | (go_at_call 45; refine (impl_bitReader_get.calls k1 w.heap.size l0 t ft 9 q1 q2 _ w _ ⟨A, c, HP1.out.2.1, Nat.le_refl _, aE.out⟩ HP1.out.2.2.2 HQ.out).mono ?_; rintro e w1 ⟨rfl, hi, hb, hk⟩; obtain ⟨A', c', hp2, ha2⟩ := pk_state HP1.out hi hb hk; have HP2 := Aside0.mk hp2; have aG := Aside0.mk ha2; have aC := Aside0.mk (pk_keep HP1.out aA.out oD hk); have HS2 := Aside0.mk (pk_keep HP1.out HS1.out oD hk); clear hi hb hk hp2 ha2; have kx1 := blk_cell HP2.out.2.1 1; have kx2 := blk_cell HP2.out.2.1 2; have ko0 := HP2.out.cell 0; simp only [List.getElem?_toArray, List.getElem?_cons_zero, List.getElem?_cons_succ] at kx1 kx2 ko0) | (go_at_call 51; refine (impl_pakTail.calls A0 c0 l0 q2 false _ (Kd.C_below HC.out HP2.out.2.2.2) HCc.out HB.out).mono ?_; rintro e w3 ⟨rfl, ⟨nd, rfl⟩⟩))
      go_ret2
      exact ⟨_, rfl, Kd.R_nil _ _ _ _ _, pw_below_drewN HP2.out.2.2.2 _⟩
    ·rw [if_neg h6] at h
     have d6 : (q1 == 256) = false := beq_eq_false_iff_ne.mpr h6
     obtain ⟨r, hr, h⟩ := Option.bind_eq_some_iff.mp h
     have HR := Aside0.mk hr
     clear hr
     cases k1 with
     | zero => exact nomatch (show none = some _ from h)
     | succ k2 =>
      simp only [impl_PakGet.j0] at h
      cases hf : pk_fits r with
      | false =>
       rw [hf, if_neg oD] at h
       simp only [Option.some.injEq, Prod.mk.injEq] at h
       obtain ⟨rfl, rfl⟩ := h
       go_wp2_with (first | (go_at_call 45; refine (impl_bitReader_get.calls (k2 + 1) w.heap.size l0 t ft 9 q1 q2 _ w _ ⟨A, c, HP1.out.2.1, Nat.le_refl _, aE.out⟩ HP1.out.2.2.2 HQ.out).mono ?_; rintro e w1 ⟨rfl, hi, hb, hk⟩; obtain ⟨A', c', hp2, ha2⟩ := pk_state HP1.out hi hb hk; have HP2 := Aside0.mk hp2; have aG := Aside0.mk ha2; have aC := Aside0.mk (pk_keep HP1.out aA.out oD hk); have HS2 := Aside0.mk (pk_keep HP1.out HS1.out oD hk); clear hi hb hk hp2 ha2; have kx1 := blk_cell HP2.out.2.1 1; have kx2 := blk_cell HP2.out.2.1 2; have ko0 := HP2.out.cell 0; simp only [List.getElem?_toArray, List.getElem?_cons_zero, List.getElem?_cons_succ] at kx1 kx2 ko0) | (go_at_call 50; refine (pk_take_calls (w.heap.size + 1) w.heap.size _ o sp la ls q1 vl vs w _ r HP2.out aC.out HS2.out HR.out).mono ?_; rintro e w3 ⟨rfl, hb3, hgi3, hall⟩; rw [hf]; have aM := Aside0.mk hb3; have HALL := Aside0.mk hall; clear hb3 hgi3 hall))
       go_ret2
       exact ⟨_, rfl, Kd.R_nil _ _ _ _ _, aM.out⟩
      | true =>
       rw [hf, if_pos rfl] at h
       obtain ⟨o', sp', rfl⟩ : ∃ o' sp', r = some (o', sp') := by
        cases r with
        | none => exact absurd hf oD
        | some p => exact ⟨p.1, p.2, rfl⟩
       have H2 := Aside0.mk h
       clear h
       go_wp2_with (first | (go_at_call 45; refine (impl_bitReader_get.calls (k2 + 1) w.heap.size l0 t ft 9 q1 q2 _ w _ ⟨A, c, HP1.out.2.1, Nat.le_refl _, aE.out⟩ HP1.out.2.2.2 HQ.out).mono ?_; rintro e w1 ⟨rfl, hi, hb, hk⟩; obtain ⟨A', c', hp2, ha2⟩ := pk_state HP1.out hi hb hk; have HP2 := Aside0.mk hp2; have aG := Aside0.mk ha2; have aC := Aside0.mk (pk_keep HP1.out aA.out oD hk); have HS2 := Aside0.mk (pk_keep HP1.out HS1.out oD hk); clear hi hb hk hp2 ha2; have kx1 := blk_cell HP2.out.2.1 1; have kx2 := blk_cell HP2.out.2.1 2; have ko0 := HP2.out.cell 0; simp only [List.getElem?_toArray, List.getElem?_cons_zero, List.getElem?_cons_succ] at kx1 kx2 ko0) | (go_at_call 50; refine (pk_take_calls (w.heap.size + 1) w.heap.size _ o sp la ls q1 vl vs w _ (some (o', sp')) HP2.out aC.out HS2.out HR.out).mono ?_; rintro e w3 ⟨rfl, hb3, hgi3, hall⟩; rw [hf]; have aM := Aside0.mk hb3; have HALL := Aside0.mk hall; obtain ⟨vl3, vs3, hp3, hl3, hs3⟩ := hall o' sp' rfl; have HP3 := Aside0.mk hp3; have aJ := Aside0.mk hl3; have HS3 := Aside0.mk hs3; clear hb3 hgi3 hall hp3 hl3 hs3))
       go_roundg k2
       case measure => omega
       case rel => exact ⟨_, _, _, _, _, _, vl3, vs3, A', c', H2, HP3, aG, aJ, HS3⟩

end Go.Proofs.Ytfnkaccncmjnaaa.X
