/- What functions of the program come to, each with its proof. No condition but what each theorem states. -/
import Derived.Test.YthnmeogafklhnaaX0
import Derived.Test.YthnmeogafklhnaaX13
import Derived.Test.YthnmeogafklhnaaX15
import Derived.Test.YthnmeogafklhnaaX50
namespace Go.Proofs.Ythnmeogafklhnaa.X
open Go.RowKit Go.Proofs.YthnmeogafklhnaaW.PrintWords Go.Proofs.YthnmeogafklhnaaW.PrintLast Go.Proofs.YthnmeogafklhnaaW.PrintMore Go.Proofs.Ythnmeogafklhnaa.Hyb
attribute [local go_sem] max2_int min2_int max_two min_two max_three min_three max_four min_four
set_option linter.unusedVariables false
set_option linter.unusedSimpArgs false

/-! ### impl_OpDo: function 19 -/
/-- The colours of a picture, the first n laid. -/
def laid (wn hn : Nat) (c : Int → Int → S38) (n : Nat) : List S38 := (List.range (wn * hn)).map fun j => if j < n then c ((j % wn : Nat) : Int) ((j / wn : Nat) : Int) else z38
/-- A picture by columns and rows. -/
def grid (wn hn : Nat) (c : Int → Int → S38) : List S38 := (List.range (wn * hn)).map fun j => c ((j % wn : Nat) : Int) ((j / wn : Nat) : Int)
theorem laid_len (wn hn : Nat) (c : Int → Int → S38) (n : Nat) : (laid wn hn c n).length = wn * hn := by simp [laid]
theorem laid_zero (wn hn : Nat) (c : Int → Int → S38) : laid wn hn c 0 = List.replicate (wn * hn) z38 := by
 apply List.ext_getElem (by simp [laid])
 intro i h1 h2
 simp [laid]
theorem laid_full (wn hn : Nat) (c : Int → Int → S38) : laid wn hn c (wn * hn) = grid wn hn c := by
 apply List.ext_getElem (by simp [laid, grid])
 intro i h1 h2
 simp [laid] at h1
 simp [laid, grid, h1]
theorem laid_set (wn hn : Nat) (c : Int → Int → S38) (n x y : Nat) (hx : x < wn) (hn' : n = y * wn + x) : (laid wn hn c n).set n (c (x : Int) (y : Int)) = laid wn hn c (n + 1) := by
 have h1 : n % wn = x := by rw [hn', Nat.add_comm, Nat.add_mul_mod_self_right, Nat.mod_eq_of_lt hx]
 have h2 : n / wn = y := by rw [hn', Nat.add_comm, Nat.add_mul_div_right _ _ (by omega), Nat.div_eq_of_lt hx, Nat.zero_add]
 apply List.ext_getElem (by simp [laid])
 intro i h3 h4
 rw [List.getElem_set]
 by_cases e : n = i
 · subst e
   rw [if_pos rfl]
   simp only [laid, List.getElem_map, List.getElem_range]
   rw [if_pos (by omega), h1, h2]
 · rw [if_neg e]
   simp only [laid, List.getElem_map, List.getElem_range]
   by_cases e2 : i < n
   ·rw [if_pos e2, if_pos (by omega)]
   ·rw [if_neg e2, if_neg (by omega)]
/-- A colour is stored whole into a row of the call's own. -/
theorem store38 {ops : Array Oper} {rest : List Oper} {o : Oper} {a : Act} {Q : Exit → Act → World → Prop} {w0 W : World} {base g n cap o' : Nat} {ok : Nat → Prop} (p x : Operand) (hN : o.dst = none) (hgd : o.guard = none) (ho : o.op = .store 38 p x) (i : Nat) (xs : List S38) (v : S38)
   (haddr : a.eval p = .pointer (some ⟨g, o', none⟩)) (hoff : o' = i * 4) (hx : a.eval x = .agg #[.int .i64 v.f0, .int .i64 v.f1, .int .i64 v.f2, .int .i64 v.f3])
   (HO : Kd.R k38 38 W base ok (.slice (some ⟨g, 0, none⟩) n cap) xs) (hi : i < n) (HB : Below base w0 W)
   (h : ∀ w1, Kd.R k38 38 w1 base ok (.slice (some ⟨g, 0, none⟩) n cap) (xs.set i v) → Below base w0 w1 → W.grownBy w1 (some g) → wpList Try.prog ops Q rest a w1) : wpList Try.prog ops Q (o :: rest) a W := by
 obtain ⟨cb, hcbl, hcbM, hcbc, hcbf⟩ := Kd.R_elem HO z38 (i : Int) (by omega) (by omega)
 have hd : cb.drop (0 + 4) = [] := List.drop_of_length_le (by rw [hcbl]; exact Nat.le_refl 4)
 refine Kd.R_store (P := Try.prog) k38 base hN hgd 38 p x ho 38 (i : Int) 0 xs v _ [.int .i64 v.f0, .int .i64 v.f1, .int .i64 v.f2, .int .i64 v.f3] cb ok (fun _ => False) haddr (by rw [hoff, Int.toNat_natCast]; rfl) hx (by simp [Value.cells]) oK ?_ HO (by omega) (by omega) hcbl hcbc (Nat.le_refl 4) ?_ (fun _ hk => hk.elim) HB ?_
 · intro q hq
   simp only [List.mem_cons, List.not_mem_nil, or_false] at hq
   rcases hq with rfl | rfl | rfl | rfl <;> rfl
 · show k38.M W base _ v (cb.take 0 ++ _ ++ cb.drop (0 + 4))
   rw [hd, List.take_zero, List.nil_append, List.append_nil]
   exact k38_mkM _ _ _ v
 · rw [Int.toNat_natCast]
   exact h
/-- A function that a value names. -/
def Named (kk : Nat) : Prop := ∃ fn, Try.prog.funcs[kk]? = some fn ∧ (fn.name == "runtime.NumGoroutine") = false ∧ fn.body.isSome = true
theorem Named.enters {kk : Nat} (h : Named kk) (args : Array Value) (w : World) : (callFunc kk args).run Try.prog w = .ok (.enter kk args) w := by
 obtain ⟨fn, h1, h2, h3⟩ := h
 exact enters_ h1 h2 h3 args w
/-- What a colour's function tells at every place, in every later world. -/
def Colours (kk : Nat) (cap : Array Value) (W H : Nat) (c : Int → Int → S38) (w : World) : Prop :=
 ∀ (w' : World) (x y : Nat), Below w.heap.size w w' → x < W → y < H → Calls Try.prog kk (#[.int .i64 (x : Int), .int .i64 (y : Int)] ++ cap) w' fun e w'' => e = .returned (.agg #[.int .i64 (c x y).f0, .int .i64 (c x y).f1, .int .i64 (c x y).f2, .int .i64 (c x y).f3]) ∧ Below w'.heap.size w' w''
set_option maxHeartbeats 1000000 in
set_option maxRecDepth 100000 in
theorem newRaster_calls (wn hn kk : Nat) (cap : Array Value) (c : Int → Int → S38) (w : World) (hw1 : 1 ≤ wn) (hw6 : wn ≤ 6) (hh1 : 1 ≤ hn) (hh6 : hn ≤ 6) (hk : Named kk) (hc : Colours kk cap wn hn c w) :
   Calls Try.prog 57 #[.int .i64 (wn : Int), .int .i64 (hn : Int), .func (.func kk) #[] cap] w fun e w' => ∃ v, e = .returned (.agg #[.int .i64 (wn : Int), .int .i64 (hn : Int), v]) ∧ Kd.R k38 38 w' w.heap.size (fun _ => True) v (grid wn hn c) ∧ Below w.heap.size w w' := by
 have hent := hk.enters
 have HCL := Aside0.mk hc
 clear hc
 have hu25 := Try.underlying25
 have hu38 := Try.underlying38
 have hmb : wn * hn ≤ 36 := Nat.mul_le_mul hw6 hh6
 have hm1 : 1 ≤ wn * hn := Nat.mul_le_mul hw1 hh1
 have hwr : IntKind.i64.wrap ((wn : Int) * (hn : Int)) = ((wn * hn : Nat) : Int) := by rw [i64_w, ← Int.natCast_mul]; unfold wrap64; omega
 obtain ⟨m, hm⟩ : ∃ m, wn * hn = m := ⟨_, rfl⟩
 rw [hm] at hwr hmb hm1
 have HM := Aside0.mk hm
 clear hm
 go_enter Try.func57, Try.ntmps57
 go_wp2_with (first | ((with_reducible refine gate_dst (N := 6) rfl ?_); refine box_event rfl (N := 6) rfl (cs := #[.int .i64 0, .int .i64 0, .slice none 0 0]) (t := 25) oS ?_; intro g1 hg1 W1 hk1 hB1; have HK1 := Aside0.mk hk1; have aX := Aside0.mk hB1; have HGE : Aside0 (w.heap.size ≤ g1) := ⟨(by omega)⟩; clear hk1 hB1 hg1) | ((with_reducible refine gate_dst (N := 14) rfl ?_); (refine Kd.R_make k38 w.heap.size 38 rfl (N := 14) rfl 68 (.tmp 13) (.tmp 13) rfl (m : Int) rfl rfl Try.underlying68 (.agg #[(.int .i64 0), (.int .i64 0), (.int .i64 0), (.int .i64 0)]) 32 info38 rfl oD (by omega) z38 (ok := fun k => k ≠ g1) (okp := fun _ => False) (k38_mkM _ _ _ z38) (fun _ hk => hk.elim) (Ne.symm (Nat.ne_of_lt (blk_lt HK1.out))) (Int.natCast_nonneg _) (by rw [Int.toNat_natCast]; omega) aX.out aX.out.size ?_); intro v1 w1 hr hb hg hblk; rw [Int.toNat_natCast, ← HM.out, ← laid_zero wn hn c] at hr; have hl0 := laid_len wn hn c 0; obtain ⟨gp, cp, hv, hgp0, hgp1, hgp2⟩ := Kd.R_form hr (by rw [hl0, HM.out]; exact hm1); rw [hl0, HM.out] at hv; subst hv; have bG := Aside0.mk hr; have aR := Aside0.mk hb; have HK2 := Aside0.mk (blk_grown HK1.out hg (by simp)); have HGP : Aside0 (gp ≠ g1 ∧ w.heap.size ≤ gp) := ⟨hr.1 gp rfl, hgp0⟩; have hcp : m ≤ cp := (by have := Kd.R_reads' hr; omega); clear hr hb hg hblk hl0 hgp0 hgp1 hgp2))
 go_loopw [16] (fun i wr => ∃ y : Nat, y ≤ hn ∧ i = .int .i64 (y : Int) ∧ Aside0 (wr.heap[g1]? = some (.cells #[.int .i64 0, .int .i64 0, .slice none 0 0] 25 (0, 0))) ∧ Aside0 (Kd.R k38 38 wr w.heap.size (fun k => k ≠ g1) (.slice (some ⟨gp, 0, none⟩) m cp) (laid wn hn c (y * wn))) ∧ Aside0 (Below w.heap.size w wr)) (fun i _ => hn - (intOf i).toNat)
 case atStart => exact ⟨0, Nat.zero_le _, rfl, HK2, by rw [Nat.zero_mul]; exact bG, aR⟩
 case round =>
   obtain ⟨y, hy, rfl, HK3, aZ, aT⟩ := hrel
   by_cases hlt : y < hn
   ·have hq : y * wn + wn ≤ m := by rw [← HM.out, ← Nat.succ_mul, Nat.mul_comm wn]; exact Nat.mul_le_mul_right _ hlt
    have hyw : (y : Int) * (wn : Int) = ((y * wn : Nat) : Int) := by rw [Int.natCast_mul]
    have hyw2 : ((y : Int) + 1) * (wn : Int) = ((y * wn + wn : Nat) : Int) := by rw [Int.add_mul, hyw]; omega
    have HY1 := Aside0.mk hyw
    have HY2 := Aside0.mk hyw2
    clear hyw hyw2
    obtain ⟨o, ho⟩ : ∃ o, y * wn = o := ⟨_, rfl⟩
    rw [ho] at hq
    have HO := Aside0.mk ho
    clear ho
    go_wp2_with (fail)
    refine (row_calls (some ⟨gp, 0, none⟩) m cp y wn _ (o : Int) ((o + wn : Nat) : Int) (by rw [HY1.out, HO.out]) (by rw [HY2.out, HO.out]) (by omega) (by omega) (by omega) (by omega) (by omega) (by omega) hcp).mono ?_
    rintro e w2 ⟨rfl, rfl⟩
    rw [show ((o + wn : Nat) : Int).toNat - (o : Int).toNat = wn by omega]
    go_wp2_with (fail)
    obtain ⟨wo, rfl⟩ : ∃ wo : World, wo = wr := ⟨_, rfl⟩
    go_loopw [25] (fun i wi => ∃ x : Nat, x ≤ wn ∧ i = .int .i64 (x : Int) ∧ Aside0 (wi.heap[g1]? = some (.cells #[.int .i64 0, .int .i64 0, .slice none 0 0] 25 (0, 0))) ∧ Aside0 (Kd.R k38 38 wi w.heap.size (fun k => k ≠ g1) (.slice (some ⟨gp, 0, none⟩) m cp) (laid wn hn c (o + x))) ∧ Aside0 (Below w.heap.size w wi)) (fun i _ => wn - (intOf i).toNat)
    case atStart => exact ⟨0, Nat.zero_le _, rfl, HK3, by rw [Nat.add_zero, ← HO.out]; exact aZ, aT⟩
    case round =>
     obtain ⟨x, hx, rfl, HK4, bA, aP⟩ := hrel
     rename World => wi
     by_cases hxl : x < wn
     ·go_wp2_with (fail)
      refine (HCL.out wi x y aP.out hxl hlt).mono ?_
      rintro e w5 ⟨rfl, hb5⟩
      have HK5 := Aside0.mk (blk_below HK4.out hb5)
      have bH := Aside0.mk (Kd.R_below bA.out hb5)
      have aD := Aside0.mk (below_then aP.out aP.out.size hb5)
      clear hb5
      go_wp2_with ((with_reducible refine gate_ (.store 38 (.tmp 34) (.tmp 33)) rfl ?_); refine store38 (.tmp 34) (.tmp 33) rfl rfl rfl (o + x) _ (c x y) rfl (by omega) rfl bH.out (by omega) aD.out ?_; intro w6 hr6 hb6 hg6; rw [laid_set wn hn c (o + x) x y hxl (by rw [HO.out])] at hr6; have aK := Aside0.mk hr6; have aJ := Aside0.mk hb6; have HK6 := Aside0.mk (blk_grown HK5.out hg6 (by have := HGP.out.1; simpa using Ne.symm this)); clear hr6 hb6 hg6)
      go_roundw
      case rel => exact ⟨x + 1, by omega, by go_num, HK6, aK, aJ⟩
      case measure => simp [intOf]; omega
     ·obtain rfl : x = wn := by omega
      go_wp2_with (fail)
      go_roundw
      case rel => exact ⟨y + 1, by omega, by go_num, HK4, by rw [Nat.succ_mul, HO.out]; exact bA, aP⟩
      case measure => simp [intOf]; omega
   ·obtain rfl : y = hn := by omega
    have aG := blk_cell HK3.out 0
    have aI := blk_cell HK3.out 1
    have aF := blk_cell HK3.out 2
    simp only [List.getElem?_toArray, List.getElem?_cons_zero, List.getElem?_cons_succ] at aG aI aF
    have hf0 := blk_frozen HK3.out 0
    have hf1 := blk_frozen HK3.out 1
    have hf2 := blk_frozen HK3.out 2
    go_wp2_with (fail)
    refine bodyPost_ret (results_cell_row rfl _ _ g1 25 #[.int .i64 (wn : Int), .int .i64 (y : Int), .slice (some ⟨gp, 0, none⟩) m cp] (0, 0) _ rfl (blk_put (blk_put (blk_put HK3.out 0 _ rfl) 1 _ rfl) 2 _ rfl) Try.underlying25 rfl oK) rfl ?_
    refine ⟨_, rfl, ?_, below_set (below_set (below_set aT.out HGE.out) HGE.out) HGE.out⟩
    rw [← laid_full, Nat.mul_comm wn]
    exact Kd.R_mono (Kd.R_far (p := ⟨g1, 2, none⟩) (Kd.R_far (p := ⟨g1, 1, none⟩) (Kd.R_far (p := ⟨g1, 0, none⟩) aZ.out (fun _ hk => hk) _) (fun _ hk => hk) _) (fun _ hk => hk) _) (fun _ _ => trivial)
set_option maxHeartbeats 1000000 in
set_option maxRecDepth 100000 in
theorem sameSize_calls (W H : Int) (A : Option Addr) (n c : Nat) (w : World) : Calls Try.prog 70 #[.agg #[.int .i64 W, .int .i64 H, .slice A n c]] w fun e w' => e = .returned (.tuple #[.int .i64 W, .int .i64 H]) ∧ Below w.heap.size w w' := by
 have hu25 := Try.underlying25
 go_enter Try.func70, Try.ntmps70
 go_wp2_with ((with_reducible refine gate_dst (N := 1) rfl ?_); refine box_event rfl (N := 1) rfl (cs := #[.int .i64 W, .int .i64 H, .slice A n c]) (t := 25) oS ?_; intro g1 hg_ W1 hk_ hb_; have aA := Aside0.mk hk_; have HBW1 := Aside0.mk (below_then (Below.refl w.heap.size w) (Below.refl w.heap.size w).size hb_); have HGEg1 : Aside0 (w.heap.size ≤ g1) := ⟨(by rw [hg_]; exact (Below.refl w.heap.size w).size)⟩; clear hk_ hb_ hg_)
 have aG := blk_cell aA.out 0
 have aI := blk_cell aA.out 1
 have aF := blk_cell aA.out 2
 simp only [List.getElem?_toArray, List.getElem?_cons_zero, List.getElem?_cons_succ] at aG aI aF
 go_quiet (fail)
 go_wp2
 go_ret2
 exact ⟨rfl, pw_below_drewN HBW1.out _⟩
set_option maxHeartbeats 1000000 in
set_option maxRecDepth 100000 in
theorem turnedSize_calls (W H : Int) (A : Option Addr) (n c : Nat) (w : World) : Calls Try.prog 73 #[.agg #[.int .i64 W, .int .i64 H, .slice A n c]] w fun e w' => e = .returned (.tuple #[.int .i64 H, .int .i64 W]) ∧ Below w.heap.size w w' := by
 have hu25 := Try.underlying25
 go_enter Try.func73, Try.ntmps73
 go_wp2_with ((with_reducible refine gate_dst (N := 1) rfl ?_); refine box_event rfl (N := 1) rfl (cs := #[.int .i64 W, .int .i64 H, .slice A n c]) (t := 25) oS ?_; intro g1 hg_ W1 hk_ hb_; have aA := Aside0.mk hk_; have HBW1 := Aside0.mk (below_then (Below.refl w.heap.size w) (Below.refl w.heap.size w).size hb_); have HGEg1 : Aside0 (w.heap.size ≤ g1) := ⟨(by rw [hg_]; exact (Below.refl w.heap.size w).size)⟩; clear hk_ hb_ hg_)
 have aG := blk_cell aA.out 0
 have aI := blk_cell aA.out 1
 have aF := blk_cell aA.out 2
 simp only [List.getElem?_toArray, List.getElem?_cons_zero, List.getElem?_cons_succ] at aG aI aF
 go_quiet (fail)
 go_wp2
 go_ret2
 exact ⟨rfl, pw_below_drewN HBW1.out _⟩
set_option maxHeartbeats 1000000 in
set_option maxRecDepth 100000 in
theorem fromX_calls (W H x y : Int) (A : Option Addr) (n c : Nat) (w : World) (w0 : 0 ≤ W) (w1 : W ≤ 100) (h0 : 0 ≤ H) (h1 : H ≤ 100) (x0 : 0 ≤ x) (x1 : x ≤ 100) (y0 : 0 ≤ y) (y1 : y ≤ 100) : Calls Try.prog 71 #[.agg #[.int .i64 W, .int .i64 H, .slice A n c], .int .i64 x, .int .i64 y] w fun e w' => e = .returned (.tuple #[.int .i64 (W - 1 - x), .int .i64 (y)]) ∧ Below w.heap.size w w' := by
 have hu25 := Try.underlying25
 have e1 : IntKind.i64.wrap (W - 1) = W - 1 := by rw [i64_w]; unfold wrap64; omega
 have e2 : IntKind.i64.wrap (W - 1 - x) = W - 1 - x := by rw [i64_w]; unfold wrap64; omega
 go_enter Try.func71, Try.ntmps71
 go_wp2_with ((with_reducible refine gate_dst (N := 3) rfl ?_); refine box_event rfl (N := 3) rfl (cs := #[.int .i64 W, .int .i64 H, .slice A n c]) (t := 25) oS ?_; intro g1 hg_ W1 hk_ hb_; have aA := Aside0.mk hk_; have HBW1 := Aside0.mk (below_then (Below.refl w.heap.size w) (Below.refl w.heap.size w).size hb_); have HGEg1 : Aside0 (w.heap.size ≤ g1) := ⟨(by rw [hg_]; exact (Below.refl w.heap.size w).size)⟩; clear hk_ hb_ hg_; have aG := blk_cell aA.out 0; have aI := blk_cell aA.out 1; have aF := blk_cell aA.out 2; simp only [List.getElem?_toArray, List.getElem?_cons_zero, List.getElem?_cons_succ] at aG aI aF)
 go_ret2
 exact ⟨rfl, HBW1.out⟩
set_option maxHeartbeats 1000000 in
set_option maxRecDepth 100000 in
theorem fromY_calls (W H x y : Int) (A : Option Addr) (n c : Nat) (w : World) (w0 : 0 ≤ W) (w1 : W ≤ 100) (h0 : 0 ≤ H) (h1 : H ≤ 100) (x0 : 0 ≤ x) (x1 : x ≤ 100) (y0 : 0 ≤ y) (y1 : y ≤ 100) : Calls Try.prog 72 #[.agg #[.int .i64 W, .int .i64 H, .slice A n c], .int .i64 x, .int .i64 y] w fun e w' => e = .returned (.tuple #[.int .i64 (x), .int .i64 (H - 1 - y)]) ∧ Below w.heap.size w w' := by
 have hu25 := Try.underlying25
 have e1 : IntKind.i64.wrap (H - 1) = H - 1 := by rw [i64_w]; unfold wrap64; omega
 have e2 : IntKind.i64.wrap (H - 1 - y) = H - 1 - y := by rw [i64_w]; unfold wrap64; omega
 go_enter Try.func72, Try.ntmps72
 go_wp2_with ((with_reducible refine gate_dst (N := 3) rfl ?_); refine box_event rfl (N := 3) rfl (cs := #[.int .i64 W, .int .i64 H, .slice A n c]) (t := 25) oS ?_; intro g1 hg_ W1 hk_ hb_; have aA := Aside0.mk hk_; have HBW1 := Aside0.mk (below_then (Below.refl w.heap.size w) (Below.refl w.heap.size w).size hb_); have HGEg1 : Aside0 (w.heap.size ≤ g1) := ⟨(by rw [hg_]; exact (Below.refl w.heap.size w).size)⟩; clear hk_ hb_ hg_; have aG := blk_cell aA.out 0; have aI := blk_cell aA.out 1; have aF := blk_cell aA.out 2; simp only [List.getElem?_toArray, List.getElem?_cons_zero, List.getElem?_cons_succ] at aG aI aF)
 go_quiet (fail)
 go_wp2
 go_ret2
 exact ⟨rfl, pw_below_drewN HBW1.out _⟩
set_option maxHeartbeats 1000000 in
set_option maxRecDepth 100000 in
theorem fromT_calls (W H x y : Int) (A : Option Addr) (n c : Nat) (w : World) (w0 : 0 ≤ W) (w1 : W ≤ 100) (h0 : 0 ≤ H) (h1 : H ≤ 100) (x0 : 0 ≤ x) (x1 : x ≤ 100) (y0 : 0 ≤ y) (y1 : y ≤ 100) : Calls Try.prog 74 #[.agg #[.int .i64 W, .int .i64 H, .slice A n c], .int .i64 x, .int .i64 y] w fun e w' => e = .returned (.tuple #[.int .i64 (y), .int .i64 (H - 1 - x)]) ∧ Below w.heap.size w w' := by
 have hu25 := Try.underlying25
 have e1 : IntKind.i64.wrap (H - 1) = H - 1 := by rw [i64_w]; unfold wrap64; omega
 have e2 : IntKind.i64.wrap (H - 1 - x) = H - 1 - x := by rw [i64_w]; unfold wrap64; omega
 go_enter Try.func74, Try.ntmps74
 go_wp2_with ((with_reducible refine gate_dst (N := 3) rfl ?_); refine box_event rfl (N := 3) rfl (cs := #[.int .i64 W, .int .i64 H, .slice A n c]) (t := 25) oS ?_; intro g1 hg_ W1 hk_ hb_; have aA := Aside0.mk hk_; have HBW1 := Aside0.mk (below_then (Below.refl w.heap.size w) (Below.refl w.heap.size w).size hb_); have HGEg1 : Aside0 (w.heap.size ≤ g1) := ⟨(by rw [hg_]; exact (Below.refl w.heap.size w).size)⟩; clear hk_ hb_ hg_; have aG := blk_cell aA.out 0; have aI := blk_cell aA.out 1; have aF := blk_cell aA.out 2; simp only [List.getElem?_toArray, List.getElem?_cons_zero, List.getElem?_cons_succ] at aG aI aF)
 go_quiet (fail)
 go_wp2
 go_ret2
 exact ⟨rfl, pw_below_drewN HBW1.out _⟩
def grayS (p : S38) : S38 := ⟨(77 * p.f0 + 150 * p.f1 + 29 * p.f2) / 256, (77 * p.f0 + 150 * p.f1 + 29 * p.f2) / 256, (77 * p.f0 + 150 * p.f1 + 29 * p.f2) / 256, p.f3⟩
def PartG (x : Int) : Prop := 0 ≤ x ∧ x ≤ 255
def PixG (p : S38) : Prop := PartG p.f0 ∧ PartG p.f1 ∧ PartG p.f2 ∧ PartG p.f3
set_option maxHeartbeats 1000000 in
set_option maxRecDepth 100000 in
theorem gray_calls (p : S38) (w : World) (hp : PixG p) : Calls Try.prog 76 #[.agg #[.int .i64 p.f0, .int .i64 p.f1, .int .i64 p.f2, .int .i64 p.f3]] w fun e w' => e = .returned (.agg #[.int .i64 (grayS p).f0, .int .i64 (grayS p).f1, .int .i64 (grayS p).f2, .int .i64 (grayS p).f3]) ∧ Below w.heap.size w w' := by
 obtain ⟨⟨a0, a1⟩, ⟨b0, b1⟩, ⟨c0, c1⟩, ⟨d0, d1⟩⟩ := hp
 unfold grayS
 obtain ⟨x, y, z, u⟩ := p
 simp only at a0 a1 b0 b1 c0 c1 d0 d1 ⊢
 have hu38 := Try.underlying38
 go_enter Try.func76, Try.ntmps76
 go_wp2_with (first | ((with_reducible refine gate_dst (N := 1) rfl ?_); refine box_event rfl (N := 1) rfl (cs := #[.int .i64 x, .int .i64 y, .int .i64 z, .int .i64 u]) (t := 38) oS ?_; intro g1 hg_ W1 hk_ hb_; have aA := Aside0.mk hk_; have HBW1 := Aside0.mk (below_then (Below.refl w.heap.size w) (Below.refl w.heap.size w).size hb_); have HGEg1 : Aside0 (w.heap.size ≤ g1) := ⟨(by rw [hg_]; exact (Below.refl w.heap.size w).size)⟩; clear hk_ hb_ hg_; have aG := blk_cell aA.out 0) | ((with_reducible refine gate_dst (N := 2) rfl ?_); refine box_event rfl (N := 2) rfl (cs := #[.int .i64 0, .int .i64 0, .int .i64 0, .int .i64 0]) (t := 38) oS ?_; intro g2 hg_ W2 hk_ hb_; have aB := Aside0.mk hk_; have HBW2 := Aside0.mk (below_then HBW1.out HBW1.out.size hb_); have HGEg2 : Aside0 (w.heap.size ≤ g2) := ⟨(by rw [hg_]; exact HBW1.out.size)⟩; replace aA := Aside0.mk (blk_below aA.out hb_); clear hk_ hb_ hg_; clear aG; have aG := blk_cell aA.out 0; have aI := blk_cell aA.out 1; have aF := blk_cell aA.out 2; have aV := blk_cell aA.out 3; simp only [List.getElem?_toArray, List.getElem?_cons_zero, List.getElem?_cons_succ] at aG aI aF aV; have hy0 := blk_cell aB.out 0; have hy1 := blk_cell aB.out 1; have hy2 := blk_cell aB.out 2; have hy3 := blk_cell aB.out 3; simp only [List.getElem?_toArray, List.getElem?_cons_zero, List.getElem?_cons_succ] at hy0 hy1 hy2 hy3; have hyf0 := blk_frozen aB.out 0; have hyf1 := blk_frozen aB.out 1; have hyf2 := blk_frozen aB.out 2; have hyf3 := blk_frozen aB.out 3))
 refine bodyPost_ret (results_cell_row rfl _ _ g2 38 #[.int .i64 ((77 * x + 150 * y + 29 * z) / 256), .int .i64 ((77 * x + 150 * y + 29 * z) / 256), .int .i64 ((77 * x + 150 * y + 29 * z) / 256), .int .i64 u] (0, 0) _ rfl (blk_put (blk_put (blk_put (blk_put aB.out 0 _ rfl) 1 _ rfl) 2 _ rfl) 3 _ rfl) Try.underlying38 rfl oK) rfl ?_
 exact ⟨rfl, below_set (below_set (below_set (below_set HBW2.out HGEg2.out) HGEg2.out) HGEg2.out) HGEg2.out⟩
set_option maxHeartbeats 1000000 in
set_option maxRecDepth 100000 in
theorem cropSize_calls (W H K A1 B1 C1 D1 : Int) (A : Option Addr) (n c go : Nat) (w : World) (hko : w.heap[go]? = some (.cells #[.int .i64 K, .int .i64 A1, .int .i64 B1, .int .i64 C1, .int .i64 D1] 27 (0, 0))) : Calls Try.prog 87 #[.agg #[.int .i64 W, .int .i64 H, .slice A n c], .pointer (some ⟨go, 0, none⟩)] w fun e w' => e = .returned (.tuple #[.int .i64 C1, .int .i64 D1]) ∧ Below w.heap.size w w' := by
 have HKo := Aside0.mk hko
 clear hko
 have hu25 := Try.underlying25
 have hu27 := Try.underlying27
 go_enter Try.func87, Try.ntmps87
 go_wp2_with ((with_reducible refine gate_dst (N := 2) rfl ?_); refine box_event rfl (N := 2) rfl (cs := #[.int .i64 W, .int .i64 H, .slice A n c]) (t := 25) oS ?_; intro g1 hg_ W1 hk_ hb_; have aA := Aside0.mk hk_; have HBW1 := Aside0.mk (below_then (Below.refl w.heap.size w) (Below.refl w.heap.size w).size hb_); have HGEg1 : Aside0 (w.heap.size ≤ g1) := ⟨(by rw [hg_]; exact (Below.refl w.heap.size w).size)⟩; replace HKo := Aside0.mk (blk_below HKo.out hb_); clear hk_ hb_ hg_)
 have ho0 := blk_cell HKo.out 0
 have ho1 := blk_cell HKo.out 1
 have ho2 := blk_cell HKo.out 2
 have ho3 := blk_cell HKo.out 3
 have ho4 := blk_cell HKo.out 4
 simp only [List.getElem?_toArray, List.getElem?_cons_zero, List.getElem?_cons_succ] at ho0 ho1 ho2 ho3 ho4
 go_quiet (fail)
 go_wp2
 go_ret2
 exact ⟨rfl, pw_below_drewN HBW1.out _⟩
set_option maxHeartbeats 1000000 in
set_option maxRecDepth 100000 in
theorem sizeSize_calls (W H K A1 B1 C1 D1 : Int) (A : Option Addr) (n c go : Nat) (w : World) (hko : w.heap[go]? = some (.cells #[.int .i64 K, .int .i64 A1, .int .i64 B1, .int .i64 C1, .int .i64 D1] 27 (0, 0))) : Calls Try.prog 95 #[.agg #[.int .i64 W, .int .i64 H, .slice A n c], .pointer (some ⟨go, 0, none⟩)] w fun e w' => e = .returned (.tuple #[.int .i64 A1, .int .i64 B1]) ∧ Below w.heap.size w w' := by
 have HKo := Aside0.mk hko
 clear hko
 have hu25 := Try.underlying25
 have hu27 := Try.underlying27
 go_enter Try.func95, Try.ntmps95
 go_wp2_with ((with_reducible refine gate_dst (N := 2) rfl ?_); refine box_event rfl (N := 2) rfl (cs := #[.int .i64 W, .int .i64 H, .slice A n c]) (t := 25) oS ?_; intro g1 hg_ W1 hk_ hb_; have aA := Aside0.mk hk_; have HBW1 := Aside0.mk (below_then (Below.refl w.heap.size w) (Below.refl w.heap.size w).size hb_); have HGEg1 : Aside0 (w.heap.size ≤ g1) := ⟨(by rw [hg_]; exact (Below.refl w.heap.size w).size)⟩; replace HKo := Aside0.mk (blk_below HKo.out hb_); clear hk_ hb_ hg_)
 have ho0 := blk_cell HKo.out 0
 have ho1 := blk_cell HKo.out 1
 have ho2 := blk_cell HKo.out 2
 have ho3 := blk_cell HKo.out 3
 have ho4 := blk_cell HKo.out 4
 simp only [List.getElem?_toArray, List.getElem?_cons_zero, List.getElem?_cons_succ] at ho0 ho1 ho2 ho3 ho4
 go_quiet (fail)
 go_wp2
 go_ret2
 exact ⟨rfl, pw_below_drewN HBW1.out _⟩
set_option maxHeartbeats 1000000 in
set_option maxRecDepth 100000 in
theorem cropFrom_calls (W H x y K A1 B1 C1 D1 : Int) (A : Option Addr) (n c go : Nat) (w : World) (hko : w.heap[go]? = some (.cells #[.int .i64 K, .int .i64 A1, .int .i64 B1, .int .i64 C1, .int .i64 D1] 27 (0, 0))) (x0 : 0 ≤ x) (x1 : x ≤ 100) (y0 : 0 ≤ y) (y1 : y ≤ 100) (ha0 : 0 ≤ A1) (ha1 : A1 ≤ 100) (hb0 : 0 ≤ B1) (hb1 : B1 ≤ 100) : Calls Try.prog 88 #[.agg #[.int .i64 W, .int .i64 H, .slice A n c], .int .i64 x, .int .i64 y, .pointer (some ⟨go, 0, none⟩)] w fun e w' => e = .returned (.tuple #[.int .i64 (A1 + x), .int .i64 (B1 + y)]) ∧ Below w.heap.size w w' := by
 have HKo := Aside0.mk hko
 clear hko
 have hu25 := Try.underlying25
 have hu27 := Try.underlying27
 have e1 : IntKind.i64.wrap (A1 + x) = A1 + x := by rw [i64_w]; unfold wrap64; omega
 have e2 : IntKind.i64.wrap (B1 + y) = B1 + y := by rw [i64_w]; unfold wrap64; omega
 go_enter Try.func88, Try.ntmps88
 go_wp2_with ((with_reducible refine gate_dst (N := 4) rfl ?_); refine box_event rfl (N := 4) rfl (cs := #[.int .i64 W, .int .i64 H, .slice A n c]) (t := 25) oS ?_; intro g1 hg_ W1 hk_ hb_; have aA := Aside0.mk hk_; have HBW1 := Aside0.mk (below_then (Below.refl w.heap.size w) (Below.refl w.heap.size w).size hb_); have HGEg1 : Aside0 (w.heap.size ≤ g1) := ⟨(by rw [hg_]; exact (Below.refl w.heap.size w).size)⟩; replace HKo := Aside0.mk (blk_below HKo.out hb_); clear hk_ hb_ hg_)
 have ho0 := blk_cell HKo.out 0
 have ho1 := blk_cell HKo.out 1
 have ho2 := blk_cell HKo.out 2
 have ho3 := blk_cell HKo.out 3
 have ho4 := blk_cell HKo.out 4
 simp only [List.getElem?_toArray, List.getElem?_cons_zero, List.getElem?_cons_succ] at ho0 ho1 ho2 ho3 ho4
 go_quiet (fail)
 go_wp2
 go_ret2
 exact ⟨rfl, pw_below_drewN HBW1.out _⟩
set_option maxHeartbeats 1000000 in
set_option maxRecDepth 100000 in
theorem sizeFrom_calls (W H x y K A1 B1 C1 D1 : Int) (A : Option Addr) (n c go : Nat) (w : World) (hko : w.heap[go]? = some (.cells #[.int .i64 K, .int .i64 A1, .int .i64 B1, .int .i64 C1, .int .i64 D1] 27 (0, 0))) (w0 : 0 ≤ W) (w1 : W ≤ 100) (h0 : 0 ≤ H) (h1 : H ≤ 100) (x0 : 0 ≤ x) (x1 : x ≤ 100) (y0 : 0 ≤ y) (y1 : y ≤ 100) (ha0 : 1 ≤ A1) (ha1 : A1 ≤ 100) (hb0 : 1 ≤ B1) (hb1 : B1 ≤ 100) : Calls Try.prog 96 #[.agg #[.int .i64 W, .int .i64 H, .slice A n c], .int .i64 x, .int .i64 y, .pointer (some ⟨go, 0, none⟩)] w fun e w' => e = .returned (.tuple #[.int .i64 ((2 * x + 1) * W / (2 * A1)), .int .i64 ((2 * y + 1) * H / (2 * B1))]) ∧ Below w.heap.size w w' := by
 have HKo := Aside0.mk hko
 clear hko
 have hu25 := Try.underlying25
 have hu27 := Try.underlying27
 have p0 : 0 ≤ (2 * x + 1) * W := Int.mul_nonneg (by omega) w0
 have p1 : (2 * x + 1) * W ≤ 201 * 100 := Int.mul_le_mul (by omega) w1 w0 (by omega)
 have q0 : 0 ≤ (2 * y + 1) * H := Int.mul_nonneg (by omega) h0
 have q1 : (2 * y + 1) * H ≤ 201 * 100 := Int.mul_le_mul (by omega) h1 h0 (by omega)
 have e1 : IntKind.i64.wrap (2 * x) = 2 * x := by rw [i64_w]; unfold wrap64; omega
 have e2 : IntKind.i64.wrap (2 * x + 1) = 2 * x + 1 := by rw [i64_w]; unfold wrap64; omega
 have e3 : IntKind.i64.wrap ((2 * x + 1) * W) = (2 * x + 1) * W := by rw [i64_w]; unfold wrap64; omega
 have e4 : IntKind.i64.wrap (2 * A1) = 2 * A1 := by rw [i64_w]; unfold wrap64; omega
 have f1 : IntKind.i64.wrap (2 * y) = 2 * y := by rw [i64_w]; unfold wrap64; omega
 have f2 : IntKind.i64.wrap (2 * y + 1) = 2 * y + 1 := by rw [i64_w]; unfold wrap64; omega
 have f3 : IntKind.i64.wrap ((2 * y + 1) * H) = (2 * y + 1) * H := by rw [i64_w]; unfold wrap64; omega
 have f4 : IntKind.i64.wrap (2 * B1) = 2 * B1 := by rw [i64_w]; unfold wrap64; omega
 have z1 : (2 * A1 == 0) = false := beq_eq_false_iff_ne.mpr (by omega)
 have z2 : (2 * B1 == 0) = false := beq_eq_false_iff_ne.mpr (by omega)
 have z3 : 2 * A1 ≠ 0 := by omega
 have z4 : 2 * B1 ≠ 0 := by omega
 have d1 : IntKind.i64.wrap (Int.tdiv ((2 * x + 1) * W) (2 * A1)) = (2 * x + 1) * W / (2 * A1) := by
   rw [Int.tdiv_eq_ediv_of_nonneg p0, i64_w]
   have := Int.ediv_le_self (2 * A1) p0
   have := Int.ediv_nonneg p0 (show 0 ≤ 2 * A1 by omega)
   unfold wrap64; omega
 have d2 : IntKind.i64.wrap (Int.tdiv ((2 * y + 1) * H) (2 * B1)) = (2 * y + 1) * H / (2 * B1) := by
   rw [Int.tdiv_eq_ediv_of_nonneg q0, i64_w]
   have := Int.ediv_le_self (2 * B1) q0
   have := Int.ediv_nonneg q0 (show 0 ≤ 2 * B1 by omega)
   unfold wrap64; omega
 go_enter Try.func96, Try.ntmps96
 go_wp2_with ((with_reducible refine gate_dst (N := 4) rfl ?_); refine box_event rfl (N := 4) rfl (cs := #[.int .i64 W, .int .i64 H, .slice A n c]) (t := 25) oS ?_; intro g1 hg_ W1 hk_ hb_; have aA := Aside0.mk hk_; have HBW1 := Aside0.mk (below_then (Below.refl w.heap.size w) (Below.refl w.heap.size w).size hb_); have HGEg1 : Aside0 (w.heap.size ≤ g1) := ⟨(by rw [hg_]; exact (Below.refl w.heap.size w).size)⟩; replace HKo := Aside0.mk (blk_below HKo.out hb_); clear hk_ hb_ hg_)
 have ho0 := blk_cell HKo.out 0
 have ho1 := blk_cell HKo.out 1
 have ho2 := blk_cell HKo.out 2
 have ho3 := blk_cell HKo.out 3
 have ho4 := blk_cell HKo.out 4
 simp only [List.getElem?_toArray, List.getElem?_cons_zero, List.getElem?_cons_succ] at ho0 ho1 ho2 ho3 ho4
 have aG := blk_cell aA.out 0
 have aI := blk_cell aA.out 1
 have aF := blk_cell aA.out 2
 simp only [List.getElem?_toArray, List.getElem?_cons_zero, List.getElem?_cons_succ] at aG aI aF
 go_quiet (fail)
 go_wp2
 go_ret2
 exact ⟨rfl, pw_below_drewN HBW1.out _⟩
def overS (a front behind : Int) : Int := (front * a + behind * (255 - a)) / 255
set_option maxHeartbeats 1000000 in
set_option maxRecDepth 100000 in
theorem over_calls (front behind a : Int) (v0 v1 v2 : Value) (gp : Nat) (w : World) (hkp : w.heap[gp]? = some (.cells #[v0, v1, v2, .int .i64 a] 38 (0, 0))) (f0 : 0 ≤ front) (f1 : front ≤ 255) (b0 : 0 ≤ behind) (b1 : behind ≤ 255) (a0 : 0 ≤ a) (a1 : a ≤ 255) : Calls Try.prog 98 #[.int .i64 front, .int .i64 behind, .pointer (some ⟨gp, 0, none⟩)] w fun e w' => e = .returned (.int .i64 (overS a front behind)) ∧ w = w' := by
 unfold overS
 have aV := blk_cell hkp 3
 simp only [List.getElem?_toArray, List.getElem?_cons_zero, List.getElem?_cons_succ] at aV
 clear hkp
 have hu38 := Try.underlying38
 have p0 : 0 ≤ front * a := Int.mul_nonneg f0 a0
 have p1 : front * a ≤ 255 * 255 := Int.mul_le_mul f1 a1 a0 (by omega)
 have q0 : 0 ≤ behind * (255 - a) := Int.mul_nonneg b0 (by omega)
 have q1 : behind * (255 - a) ≤ 255 * 255 := Int.mul_le_mul b1 (by omega) (by omega) (by omega)
 have e1 : IntKind.i64.wrap (front * a) = front * a := by rw [i64_w]; unfold wrap64; omega
 have e2 : IntKind.i64.wrap (behind * (255 - a)) = behind * (255 - a) := by rw [i64_w]; unfold wrap64; omega
 have e3 : IntKind.i64.wrap (front * a + behind * (255 - a)) = front * a + behind * (255 - a) := by rw [i64_w]; unfold wrap64; omega
 have e4 : 0 ≤ front * a + behind * (255 - a) := by omega
 go_enter Try.func98, Try.ntmps98
 go_wp2
 go_ret
 exact ⟨rfl, rfl⟩
/-- The colour at a column and a row. -/
def pix (W : Nat) (l : List S38) (x y : Int) : S38 := rd_T38 l (y * (W : Int) + x)
def FitsN (W H : Nat) (l : List S38) : Prop := 1 ≤ W ∧ W ≤ 6 ∧ 1 ≤ H ∧ H ≤ 6 ∧ l.length = W * H ∧ ∀ p ∈ l, PixG p
theorem FitsN.pixP {W H : Nat} {l : List S38} (h : FitsN W H l) (x y : Int) : PixG (pix W l x y) := by
 unfold pix rd_T38
 rw [List.getD_eq_getElem?_getD]
 cases hx : l[(y * (W : Int) + x).toNat]? with
 | none => exact ⟨⟨by decide, by decide⟩, ⟨by decide, by decide⟩, ⟨by decide, by decide⟩, ⟨by decide, by decide⟩⟩
 | some p => exact h.2.2.2.2.2 p (List.mem_of_getElem? hx)
theorem pixOf_ok {W H : Nat} {l : List S38} (h : FitsN W H l) (x y : Int) (x0 : 0 ≤ x) (x1 : x < W) (y0 : 0 ≤ y) (y1 : y < H) : impl_pixOf.f W H l x y = some ((pix W l x y).f0, (pix W l x y).f1, (pix W l x y).f2, (pix W l x y).f3) := by
 obtain ⟨h1, h2, h3, h4, h5, _⟩ := h
 unfold impl_pixOf.f pix
 rw [if_pos ⟨by omega, by omega, by omega, by rw [h5, Int.natCast_mul], x0, x1, y0, y1⟩]
/-- Where a colour is taken from, told by a function of the program. -/
def FromOk (ff : Nat) (fcap : Array Value) (w : World) (W H w2 h2 : Nat) (fx fy : Int → Int → Int) : Prop :=
 ∀ (w' : World) (A : Option Addr) (n c x y : Nat), Below w.heap.size w w' → x < w2 → y < h2 → Calls Try.prog ff (#[.agg #[.int .i64 (W : Int), .int .i64 (H : Int), .slice A n c], .int .i64 (x : Int), .int .i64 (y : Int)] ++ fcap) w' fun e w'' => e = .returned (.tuple #[.int .i64 (fx x y), .int .i64 (fy x y)]) ∧ Below w'.heap.size w' w''
def SizeOk (fs : Nat) (scap : Array Value) (w : World) (W H w2 h2 : Nat) : Prop :=
 ∀ (w' : World) (A : Option Addr) (n c : Nat), Below w.heap.size w w' → Calls Try.prog fs (#[.agg #[.int .i64 (W : Int), .int .i64 (H : Int), .slice A n c]] ++ scap) w' fun e w'' => e = .returned (.tuple #[.int .i64 (w2 : Int), .int .i64 (h2 : Int)]) ∧ Below w'.heap.size w' w''
def ChangeOk (ff : Nat) (fcap : Array Value) (w : World) (g : S38 → S38) : Prop :=
 ∀ (w' : World) (p : S38), Below w.heap.size w w' → PixG p → Calls Try.prog ff (#[.agg #[.int .i64 p.f0, .int .i64 p.f1, .int .i64 p.f2, .int .i64 p.f3]] ++ fcap) w' fun e w'' => e = .returned (.agg #[.int .i64 (g p).f0, .int .i64 (g p).f1, .int .i64 (g p).f2, .int .i64 (g p).f3]) ∧ Below w'.heap.size w' w''
/-- What a value of the kind opMove does with one picture. -/
def MoveOk (ff : Nat) (fcap : Array Value) (w : World) (W H : Nat) (l : List S38) (r1 r2 : Int) (r3 : List S38) (r4 : Bool) : Prop :=
 ∀ (w' : World) (A : Option Addr) (c : Nat), Below w.heap.size w w' → Kd.C k38 w' A l.length l → l.length ≤ c → Calls Try.prog ff (#[.agg #[.int .i64 (W : Int), .int .i64 (H : Int), .slice A l.length c]] ++ fcap) w' fun e w'' => ∃ v, e = .returned (.tuple #[.agg #[.int .i64 r1, .int .i64 r2, v], .bool r4]) ∧ Kd.R k38 38 w'' w'.heap.size (fun _ => True) v r3 ∧ Below w'.heap.size w' w''
set_option maxHeartbeats 1000000 in
set_option maxRecDepth 100000 in
theorem places_colour (W H w2 h2 : Nat) (l : List S38) (fx fy : Int → Int → Int) (ff : Nat) (fcap : Array Value) (gf gr : Nat) (A : Option Addr) (c : Nat) (w : World) (hfit : FitsN W H l) (hff : Named ff)
   (hkf : w.heap[gf]? = some (.cells #[.func (.func ff) #[] fcap] 75 (0, 0))) (hkr : w.heap[gr]? = some (.cells #[.int .i64 (W : Int), .int .i64 (H : Int), .slice A l.length c] 25 (0, 0))) (hC : Kd.C k38 w A l.length l) (hc : l.length ≤ c)
   (hF : FromOk ff fcap w W H w2 h2 fx fy) (hr : ∀ x y : Nat, x < w2 → y < h2 → 0 ≤ fx x y ∧ fx x y < W ∧ 0 ≤ fy x y ∧ fy x y < H) : Colours 91 #[.pointer (some ⟨gf, 0, none⟩), .pointer (some ⟨gr, 0, none⟩)] w2 h2 (fun x y => pix W l (fx x y) (fy x y)) w := by
 intro w' x y hb hx hy
 obtain ⟨r0, r1, r2, r3⟩ := hr x y hx hy
 have hpx := pixOf_ok hfit (fx x y) (fy x y) r0 r1 r2 r3
 have HPX := Aside0.mk hpx
 have HF := Aside0.mk hF
 have HB := Aside0.mk hb
 have HKf := Aside0.mk (blk_below hkf hb)
 have HKr := Aside0.mk (blk_below hkr hb)
 have HC := Aside0.mk (Kd.C_below hC hb)
 have hent := hff.enters
 have hu25 := Try.underlying25
 have hu38 := Try.underlying38
 clear hpx hF hb hkf hkr hC hr hff
 show Calls Try.prog 91 #[.int .i64 (x : Int), .int .i64 (y : Int), .pointer (some ⟨gf, 0, none⟩), .pointer (some ⟨gr, 0, none⟩)] w' (fun e w'' => e = .returned (.agg #[.int .i64 (pix W l (fx x y) (fy x y)).f0, .int .i64 (pix W l (fx x y) (fy x y)).f1, .int .i64 (pix W l (fx x y) (fy x y)).f2, .int .i64 (pix W l (fx x y) (fy x y)).f3]) ∧ Below w'.heap.size w' w'')
 generalize pix W l (fx x y) (fy x y) = px at HPX ⊢
 go_enter Try.func91, Try.ntmps91
 go_wp2_with ((with_reducible refine gate_dst (N := 6) rfl ?_); refine box_event rfl (N := 6) rfl (cs := #[.int .i64 0, .int .i64 0, .int .i64 0, .int .i64 0]) (t := 38) oS ?_; intro g1 hg_ W1 hk_ hb_; have aA := Aside0.mk hk_; have HBW1 := Aside0.mk (below_then (Below.refl w'.heap.size w') (Below.refl w'.heap.size w').size hb_); have HGEg1 : Aside0 (w'.heap.size ≤ g1) := ⟨(by rw [hg_]; exact (Below.refl w'.heap.size w').size)⟩; replace HKf := Aside0.mk (blk_below HKf.out hb_); replace HKr := Aside0.mk (blk_below HKr.out hb_); clear hk_ hb_ hg_; have zf0 := blk_cell HKf.out 0; have zr0 := blk_cell HKr.out 0; have zr1 := blk_cell HKr.out 1; have zr2 := blk_cell HKr.out 2; simp only [List.getElem?_toArray, List.getElem?_cons_zero, List.getElem?_cons_succ] at zr0 zr1 zr2; simp only [List.getElem?_toArray, List.getElem?_cons_zero, List.getElem?_cons_succ] at zf0)
 refine (HF.out _ A l.length c x y (HB.out.trans (HBW1.out.mono HB.out.size)) hx hy).mono ?_
 rintro e w5 ⟨rfl, hb5⟩
 clear zf0 zr0 zr1 zr2
 have aD := Aside0.mk (below_then HBW1.out HBW1.out.size hb5)
 have HK5 := Aside0.mk (blk_below aA.out hb5)
 have HKr5 := Aside0.mk (blk_below HKr.out hb5)
 clear hb5
 have zr0 := blk_cell HKr5.out 0
 have zr1 := blk_cell HKr5.out 1
 have zr2 := blk_cell HKr5.out 2
 simp only [List.getElem?_toArray, List.getElem?_cons_zero, List.getElem?_cons_succ] at zr0 zr1 zr2
 go_wp2_with (fail)
 refine (impl_pixOf.calls W H A c l _ _ px.f0 px.f1 px.f2 px.f3 _ (Kd.C_below HC.out aD.out) hc HPX.out).mono ?_
 rintro e w6 ⟨rfl, hb6⟩
 clear zr0 zr1 zr2
 have aJ := Aside0.mk (below_then aD.out aD.out.size hb6)
 have aH := Aside0.mk (blk_below HK5.out hb6)
 clear hb6
 have y0 := blk_cell aH.out 0
 have y1 := blk_cell aH.out 1
 have y2 := blk_cell aH.out 2
 have y3 := blk_cell aH.out 3
 simp only [List.getElem?_toArray, List.getElem?_cons_zero, List.getElem?_cons_succ] at y0 y1 y2 y3
 have yf0 := blk_frozen aH.out 0
 have yf1 := blk_frozen aH.out 1
 have yf2 := blk_frozen aH.out 2
 have yf3 := blk_frozen aH.out 3
 go_wp2_with (fail)
 refine bodyPost_ret (results_cell_row rfl _ _ g1 38 #[.int .i64 px.f0, .int .i64 px.f1, .int .i64 px.f2, .int .i64 px.f3] (0, 0) _ rfl (blk_put (blk_put (blk_put (blk_put aH.out 0 _ rfl) 1 _ rfl) 2 _ rfl) 3 _ rfl) Try.underlying38 rfl oK) rfl ?_
 exact ⟨rfl, below_set (below_set (below_set (below_set aJ.out HGEg1.out) HGEg1.out) HGEg1.out) HGEg1.out⟩
set_option maxHeartbeats 1000000 in
set_option maxRecDepth 100000 in
theorem colours_colour (W H : Nat) (l : List S38) (g : S38 → S38) (ff : Nat) (fcap : Array Value) (gf gr : Nat) (A : Option Addr) (c : Nat) (w : World) (hfit : FitsN W H l) (hff : Named ff)
   (hkf : w.heap[gf]? = some (.cells #[.func (.func ff) #[] fcap] 77 (0, 0))) (hkr : w.heap[gr]? = some (.cells #[.int .i64 (W : Int), .int .i64 (H : Int), .slice A l.length c] 25 (0, 0))) (hC : Kd.C k38 w A l.length l) (hc : l.length ≤ c)
   (hF : ChangeOk ff fcap w g) : Colours 93 #[.pointer (some ⟨gf, 0, none⟩), .pointer (some ⟨gr, 0, none⟩)] W H (fun x y => g (pix W l x y)) w := by
 intro w' x y hb hx hy
 have HPX := Aside0.mk (pixOf_ok hfit x y (by omega) (by omega) (by omega) (by omega))
 have HPP := Aside0.mk (hfit.pixP x y)
 have HF := Aside0.mk hF
 have HB := Aside0.mk hb
 have HKf := Aside0.mk (blk_below hkf hb)
 have HKr := Aside0.mk (blk_below hkr hb)
 have HC := Aside0.mk (Kd.C_below hC hb)
 have hent := hff.enters
 have hu25 := Try.underlying25
 have hu38 := Try.underlying38
 clear hF hb hkf hkr hC hff
 show Calls Try.prog 93 #[.int .i64 (x : Int), .int .i64 (y : Int), .pointer (some ⟨gf, 0, none⟩), .pointer (some ⟨gr, 0, none⟩)] w' (fun e w'' => e = .returned (.agg #[.int .i64 (g (pix W l x y)).f0, .int .i64 (g (pix W l x y)).f1, .int .i64 (g (pix W l x y)).f2, .int .i64 (g (pix W l x y)).f3]) ∧ Below w'.heap.size w' w'')
 generalize pix W l x y = px at HPX HPP ⊢
 go_enter Try.func93, Try.ntmps93
 go_wp2_with ((with_reducible refine gate_dst (N := 6) rfl ?_); refine box_event rfl (N := 6) rfl (cs := #[.int .i64 0, .int .i64 0, .int .i64 0, .int .i64 0]) (t := 38) oS ?_; intro g1 hg_ W1 hk_ hb_; have aA := Aside0.mk hk_; have HBW1 := Aside0.mk (below_then (Below.refl w'.heap.size w') (Below.refl w'.heap.size w').size hb_); have HGEg1 : Aside0 (w'.heap.size ≤ g1) := ⟨(by rw [hg_]; exact (Below.refl w'.heap.size w').size)⟩; replace HKf := Aside0.mk (blk_below HKf.out hb_); replace HKr := Aside0.mk (blk_below HKr.out hb_); clear hk_ hb_ hg_; have zf0 := blk_cell HKf.out 0; have zr0 := blk_cell HKr.out 0; have zr1 := blk_cell HKr.out 1; have zr2 := blk_cell HKr.out 2; simp only [List.getElem?_toArray, List.getElem?_cons_zero, List.getElem?_cons_succ] at zr0 zr1 zr2; simp only [List.getElem?_toArray, List.getElem?_cons_zero, List.getElem?_cons_succ] at zf0)
 refine start_ (n := 7) (S := fun w'' => w''.cell? ⟨gf, 0, none⟩ = some (.func (.func ff) #[] fcap) ∧ w''.cell? ⟨gr, 0, none⟩ = some (.int .i64 (W : Int)) ∧ w''.cell? ⟨gr, 1, none⟩ = some (.int .i64 (H : Int)) ∧ w''.cell? ⟨gr, 2, none⟩ = some (.slice A l.length c)) (ds := [5, 6]) #[false, false, false, false, false, false, false] oK rfl rfl ⟨zf0, zr0, zr1, zr2⟩ (fun hHeld => ?_)
 refine take_ (i := 0) (N := (some 7)) (v := ?_) (a' := ?_) #[true, false, false, false, false, false, false] rfl rfl oK (fun _ _ _ h => h) (Or.inl ⟨by rfl, ?_⟩) hHeld ?_ ?_
 rotate_left
 · intro w' s0
   go_simp
   with_reducible rfl
 rotate_left
 · simp only [Act.put, List.setIfInBounds_toArray, List.set_cons_zero, List.set_cons_succ, i64_w, i32_w]
   rfl
 refine take_ (i := 1) (N := (some 8)) (v := ?_) (a' := ?_) #[true, true, false, false, false, false, false] rfl rfl oK (fun _ _ _ h => h) (Or.inl ⟨by rfl, ?_⟩) hHeld ?_ ?_
 rotate_left
 · intro w' s0
   go_simp
   with_reducible rfl
 rotate_left
 · simp only [Act.put, List.setIfInBounds_toArray, List.set_cons_zero, List.set_cons_succ, i64_w, i32_w]
   rfl
 refine pure_ (i := 2) (N := (some 9)) (v := ?_) (a' := ?_) #[true, true, true, false, false, false, false] rfl rfl oK (fun _ _ _ h => h) (Or.inl ⟨by rfl, ?_⟩) ?_ ?_
 rotate_left
 · intro w'
   go_simp
   with_reducible rfl
 rotate_left
 · simp only [Act.put, List.setIfInBounds_toArray, List.set_cons_zero, List.set_cons_succ, i64_w, i32_w]
   rfl
 refine pure_ (i := 3) (N := (some 10)) (v := ?_) (a' := ?_) #[true, true, true, true, false, false, false] rfl rfl oK (fun _ _ _ h => h) (Or.inl ⟨by rfl, ?_⟩) ?_ ?_
 rotate_left
 · intro w'
   go_simp
   with_reducible rfl
 rotate_left
 · simp only [Act.put, List.setIfInBounds_toArray, List.set_cons_zero, List.set_cons_succ, i64_w, i32_w]
   rfl
 refine one_ (i := 4) (N := (some 11)) #[true, true, true, true, true, false, false] rfl rfl oK oD (fun K hK => ?_)
 refine goes_ Try.func54 oK rfl #[.agg #[.int .i64 (W : Int), .int .i64 (H : Int), .slice A l.length c], .int .i64 (x : Int), .int .i64 (y : Int)] (by rfl) rfl rfl (by (try simp only [List.map_toArray, List.map_cons, List.map_nil]); rfl) ?_
 refine (impl_pixOf.calls W H A c l _ _ px.f0 px.f1 px.f2 px.f3 _ (Kd.C_drew (Kd.C_below HC.out HBW1.out)) hc HPX.out).mono ?_
 rintro e w2 ⟨rfl, hb⟩
 have aR := Aside0.mk (below_then (below_drew HBW1.out) (below_drew HBW1.out).size hb)
 have HK2 := Aside0.mk (blk_below (blk_drew aA.out) hb)
 have HKf2 := Aside0.mk (blk_below (blk_drew HKf.out) hb)
 have HKr2 := Aside0.mk (blk_below (blk_drew HKr.out) hb)
 clear hb
 have vf0 := blk_cell HKf2.out 0
 have vr0 := blk_cell HKr2.out 0
 have vr1 := blk_cell HKr2.out 1
 have vr2 := blk_cell HKr2.out 2
 simp only [List.getElem?_toArray, List.getElem?_cons_zero, List.getElem?_cons_succ] at vr0 vr1 vr2
 simp only [List.getElem?_toArray, List.getElem?_cons_zero, List.getElem?_cons_succ] at vf0
 refine ⟨_, rfl, ?_⟩
 refine hK.out _ _ ⟨vf0, vr0, vr1, vr2⟩ (fun hHeld2 => ?_)
 clear hK K
 try simp only [Act.put, List.setIfInBounds_toArray, List.set_cons_zero, List.set_cons_succ]
 refine last_ (i := 5) (N := (some 12)) #[true, true, true, true, true, true, false] rfl rfl oK oD (fun K hK => ?_)
 refine call_ ff (#[.agg #[.int .i64 px.f0, .int .i64 px.f1, .int .i64 px.f2, .int .i64 px.f3]] ++ fcap) (by rfl) rfl (by unfold execOp; simp [resolve, Deferred.ofValue, invoke, Act.eval, hent]) ?_
 refine (HF.out _ px (HB.out.trans (aR.out.mono HB.out.size)) HPP.out).mono ?_
 rintro e w3 ⟨rfl, hb⟩
 have aT := Aside0.mk (below_then aR.out aR.out.size hb)
 have aE := Aside0.mk (blk_below HK2.out hb)
 clear hb
 have y0 := blk_cell aE.out 0
 have y1 := blk_cell aE.out 1
 have y2 := blk_cell aE.out 2
 have y3 := blk_cell aE.out 3
 simp only [List.getElem?_toArray, List.getElem?_cons_zero, List.getElem?_cons_succ] at y0 y1 y2 y3
 have yf0 := blk_frozen aE.out 0
 have yf1 := blk_frozen aE.out 1
 have yf2 := blk_frozen aE.out 2
 have yf3 := blk_frozen aE.out 3
 refine ⟨_, rfl, ?_⟩
 refine hK.out _ _ ?_
 clear hK K
 try simp only [Act.put, List.setIfInBounds_toArray, List.set_cons_zero, List.set_cons_succ]
 refine last_ (i := 6) (N := none) #[true, true, true, true, true, true, true] rfl rfl oK oD (fun K hK => ?_)
 refine skip_ (w1 := ?_) (by rfl) rfl ?_ ?_
 rotate_left
 · go_simp
   with_reducible rfl
 refine hK.out _ _ ?_
 clear hK K
 try simp only [Act.put, List.setIfInBounds_toArray, List.set_cons_zero, List.set_cons_succ]
 refine done_ oK ?_
 go_wp2
 refine bodyPost_ret (results_cell_row rfl _ _ g1 38 #[.int .i64 (g px).f0, .int .i64 (g px).f1, .int .i64 (g px).f2, .int .i64 (g px).f3] (0, 0) _ rfl (blk_put (blk_put (blk_put (blk_put aE.out 0 _ rfl) 1 _ rfl) 2 _ rfl) 3 _ rfl) Try.underlying38 rfl oK) rfl ?_
 exact ⟨rfl, below_set (below_set (below_set (below_set aT.out HGEg1.out) HGEg1.out) HGEg1.out) HGEg1.out⟩
def flatS (A1 B1 C1 : Int) (p : S38) : S38 := ⟨overS p.f3 p.f0 A1, overS p.f3 p.f1 B1, overS p.f3 p.f2 C1, 255⟩
set_option maxHeartbeats 1000000 in
set_option maxRecDepth 100000 in
theorem flat_calls (p : S38) (K A1 B1 C1 D1 : Int) (go : Nat) (w : World) (hp : PixG p) (ha : PartG A1) (hb : PartG B1) (hc : PartG C1) (hko : w.heap[go]? = some (.cells #[.int .i64 K, .int .i64 A1, .int .i64 B1, .int .i64 C1, .int .i64 D1] 27 (0, 0))) :
   Calls Try.prog 97 #[.agg #[.int .i64 p.f0, .int .i64 p.f1, .int .i64 p.f2, .int .i64 p.f3], .pointer (some ⟨go, 0, none⟩)] w fun e w' => e = .returned (.agg #[.int .i64 (flatS A1 B1 C1 p).f0, .int .i64 (flatS A1 B1 C1 p).f1, .int .i64 (flatS A1 B1 C1 p).f2, .int .i64 (flatS A1 B1 C1 p).f3]) ∧ Below w.heap.size w w' := by
 have HP := Aside0.mk hp
 have HKo := Aside0.mk hko
 have hu38 := Try.underlying38
 have hu27 := Try.underlying27
 have hen : ∀ (args : Array Value) (w : World), (callFunc 98 args).run Try.prog w = .ok (.enter 98 args) w := fun args w => enters_ Try.func98 oK rfl args w
 clear hp hko
 unfold flatS
 obtain ⟨x, y, z, u⟩ := p
 go_enter Try.func97, Try.ntmps97
 go_wp2_with (first | ((with_reducible refine gate_dst (N := 2) rfl ?_); refine box_event rfl (N := 2) rfl (cs := #[.int .i64 x, .int .i64 y, .int .i64 z, .int .i64 u]) (t := 38) oS ?_; intro g1 hg_ W1 hk_ hb_; have aA := Aside0.mk hk_; have HBW1 := Aside0.mk (below_then (Below.refl w.heap.size w) (Below.refl w.heap.size w).size hb_); have HGEg1 : Aside0 (w.heap.size ≤ g1) := ⟨(by rw [hg_]; exact (Below.refl w.heap.size w).size)⟩; replace HKo := Aside0.mk (blk_below HKo.out hb_); clear hk_ hb_ hg_) | ((with_reducible refine gate_dst (N := 3) rfl ?_); refine box_event rfl (N := 3) rfl (cs := #[.int .i64 0, .int .i64 0, .int .i64 0, .int .i64 0]) (t := 38) oS ?_; intro g2 hg_ W2 hk_ hb_; have aB := Aside0.mk hk_; have HBW2 := Aside0.mk (below_then HBW1.out HBW1.out.size hb_); have HGEg2 : Aside0 (w.heap.size ≤ g2) := ⟨(by rw [hg_]; exact HBW1.out.size)⟩; replace HKo := Aside0.mk (blk_below HKo.out hb_); replace aA := Aside0.mk (blk_below aA.out hb_); clear hk_ hb_ hg_))
 have HK1d := Aside0.mk (blk_drew aA.out)
 have p0 := blk_cell HK1d.out 0
 have p1 := blk_cell HK1d.out 1
 have p2 := blk_cell HK1d.out 2
 have p3 := blk_cell HK1d.out 3
 simp only [List.getElem?_toArray, List.getElem?_cons_zero, List.getElem?_cons_succ] at p0 p1 p2 p3
 have HKod := Aside0.mk (blk_drew HKo.out)
 have q0 := blk_cell HKod.out 0
 have q1 := blk_cell HKod.out 1
 have q2 := blk_cell HKod.out 2
 have q3 := blk_cell HKod.out 3
 have q4 := blk_cell HKod.out 4
 simp only [List.getElem?_toArray, List.getElem?_cons_zero, List.getElem?_cons_succ] at q0 q1 q2 q3 q4
 obtain ⟨⟨a0, a1⟩, ⟨b0, b1⟩, ⟨c0, c1⟩, ⟨d0, d1⟩⟩ := HP.out
 simp only at a0 a1 b0 b1 c0 c1 d0 d1
 have K1 := Aside0.mk (over_calls x A1 u _ _ _ g1 W2.drew HK1d.out a0 a1 ha.1 ha.2 d0 d1)
 have K2 := Aside0.mk (over_calls y B1 u _ _ _ g1 W2.drew HK1d.out b0 b1 hb.1 hb.2 d0 d1)
 have K3 := Aside0.mk (over_calls z C1 u _ _ _ g1 W2.drew HK1d.out c0 c1 hc.1 hc.2 d0 d1)
 have aM := Aside0.mk (blk_drew aB.out)
 have HBd := Aside0.mk (below_drew HBW2.out)
 clear a0 a1 b0 b1 c0 c1 d0 d1 ha hb hc
 have aY := Aside0.mk aA.out
 have r0 := blk_cell aA.out 0
 have r1 := blk_cell aA.out 1
 have r2 := blk_cell aA.out 2
 have r3 := blk_cell aA.out 3
 simp only [List.getElem?_toArray, List.getElem?_cons_zero, List.getElem?_cons_succ] at r0 r1 r2 r3
 have s0 := blk_cell HKo.out 0
 have s1 := blk_cell HKo.out 1
 have s2 := blk_cell HKo.out 2
 have s3 := blk_cell HKo.out 3
 have s4 := blk_cell HKo.out 4
 simp only [List.getElem?_toArray, List.getElem?_cons_zero, List.getElem?_cons_succ] at s0 s1 s2 s3 s4
 clear s0 s4 p0 p1 p2 p3 q0 q1 q2 q3 q4
 refine start_ (n := 20) (S := fun w'' => w''.cell? ⟨g1, 0, none⟩ = some (.int .i64 x) ∧ w''.cell? ⟨g1, 1, none⟩ = some (.int .i64 y) ∧ w''.cell? ⟨g1, 2, none⟩ = some (.int .i64 z) ∧ w''.cell? ⟨g1, 3, none⟩ = some (.int .i64 u) ∧ w''.cell? ⟨go, 1, none⟩ = some (.int .i64 A1) ∧ w''.cell? ⟨go, 2, none⟩ = some (.int .i64 B1) ∧ w''.cell? ⟨go, 3, none⟩ = some (.int .i64 C1)) (ds := [19]) #[false, false, false, false, false, false, false, false, false, false, false, false, false, false, false, false, false, false, false, false] oK rfl rfl ⟨r0, r1, r2, r3, s1, s2, s3⟩ (fun hHeld => ?_)
 refine pure_ (i := 0) (N := (some 6)) (v := ?_) (a' := ?_) #[true, false, false, false, false, false, false, false, false, false, false, false, false, false, false, false, false, false, false, false] rfl rfl oK (fun _ _ _ h => h) (Or.inl ⟨by rfl, ?_⟩) ?_ ?_
 rotate_left
 · intro w'
   go_simp
   with_reducible rfl
 rotate_left
 · simp only [Act.put, List.setIfInBounds_toArray, List.set_cons_zero, List.set_cons_succ, i64_w, i32_w]
   rfl
 refine pure_ (i := 1) (N := (some 7)) (v := ?_) (a' := ?_) #[true, true, false, false, false, false, false, false, false, false, false, false, false, false, false, false, false, false, false, false] rfl rfl oK (fun _ _ _ h => h) (Or.inl ⟨by rfl, ?_⟩) ?_ ?_
 rotate_left
 · intro w'
   go_simp
   with_reducible rfl
 rotate_left
 · simp only [Act.put, List.setIfInBounds_toArray, List.set_cons_zero, List.set_cons_succ, i64_w, i32_w]
   rfl
 refine take_ (i := 2) (N := (some 8)) (v := ?_) (a' := ?_) #[true, true, true, false, false, false, false, false, false, false, false, false, false, false, false, false, false, false, false, false] rfl rfl oK (fun _ _ _ h => h) (Or.inl ⟨by rfl, ?_⟩) hHeld ?_ ?_
 rotate_left
 · intro w' s0
   go_simp
   with_reducible rfl
 rotate_left
 · simp only [Act.put, List.setIfInBounds_toArray, List.set_cons_zero, List.set_cons_succ, i64_w, i32_w]
   rfl
 refine pure_ (i := 3) (N := (some 9)) (v := ?_) (a' := ?_) #[true, true, true, true, false, false, false, false, false, false, false, false, false, false, false, false, false, false, false, false] rfl rfl oK (fun _ _ _ h => h) (Or.inl ⟨by rfl, ?_⟩) ?_ ?_
 rotate_left
 · intro w'
   go_simp
   with_reducible rfl
 rotate_left
 · simp only [Act.put, List.setIfInBounds_toArray, List.set_cons_zero, List.set_cons_succ, i64_w, i32_w]
   rfl
 refine take_ (i := 4) (N := (some 10)) (v := ?_) (a' := ?_) #[true, true, true, true, true, false, false, false, false, false, false, false, false, false, false, false, false, false, false, false] rfl rfl oK (fun _ _ _ h => h) (Or.inl ⟨by rfl, ?_⟩) hHeld ?_ ?_
 rotate_left
 · intro w' s0
   go_simp
   with_reducible rfl
 rotate_left
 · simp only [Act.put, List.setIfInBounds_toArray, List.set_cons_zero, List.set_cons_succ, i64_w, i32_w]
   rfl
 refine pure_ (i := 6) (N := (some 12)) (v := ?_) (a' := ?_) #[true, true, true, true, true, false, true, false, false, false, false, false, false, false, false, false, false, false, false, false] rfl rfl oK (fun _ _ _ h => h) (Or.inl ⟨by rfl, ?_⟩) ?_ ?_
 rotate_left
 · intro w'
   go_simp
   with_reducible rfl
 rotate_left
 · simp only [Act.put, List.setIfInBounds_toArray, List.set_cons_zero, List.set_cons_succ, i64_w, i32_w]
   rfl
 refine pure_ (i := 7) (N := (some 13)) (v := ?_) (a' := ?_) #[true, true, true, true, true, false, true, true, false, false, false, false, false, false, false, false, false, false, false, false] rfl rfl oK (fun _ _ _ h => h) (Or.inl ⟨by rfl, ?_⟩) ?_ ?_
 rotate_left
 · intro w'
   go_simp
   with_reducible rfl
 rotate_left
 · simp only [Act.put, List.setIfInBounds_toArray, List.set_cons_zero, List.set_cons_succ, i64_w, i32_w]
   rfl
 refine take_ (i := 8) (N := (some 14)) (v := ?_) (a' := ?_) #[true, true, true, true, true, false, true, true, true, false, false, false, false, false, false, false, false, false, false, false] rfl rfl oK (fun _ _ _ h => h) (Or.inl ⟨by rfl, ?_⟩) hHeld ?_ ?_
 rotate_left
 · intro w' s0
   go_simp
   with_reducible rfl
 rotate_left
 · simp only [Act.put, List.setIfInBounds_toArray, List.set_cons_zero, List.set_cons_succ, i64_w, i32_w]
   rfl
 refine pure_ (i := 9) (N := (some 15)) (v := ?_) (a' := ?_) #[true, true, true, true, true, false, true, true, true, true, false, false, false, false, false, false, false, false, false, false] rfl rfl oK (fun _ _ _ h => h) (Or.inl ⟨by rfl, ?_⟩) ?_ ?_
 rotate_left
 · intro w'
   go_simp
   with_reducible rfl
 rotate_left
 · simp only [Act.put, List.setIfInBounds_toArray, List.set_cons_zero, List.set_cons_succ, i64_w, i32_w]
   rfl
 refine take_ (i := 10) (N := (some 16)) (v := ?_) (a' := ?_) #[true, true, true, true, true, false, true, true, true, true, true, false, false, false, false, false, false, false, false, false] rfl rfl oK (fun _ _ _ h => h) (Or.inl ⟨by rfl, ?_⟩) hHeld ?_ ?_
 rotate_left
 · intro w' s0
   go_simp
   with_reducible rfl
 rotate_left
 · simp only [Act.put, List.setIfInBounds_toArray, List.set_cons_zero, List.set_cons_succ, i64_w, i32_w]
   rfl
 refine pure_ (i := 12) (N := (some 18)) (v := ?_) (a' := ?_) #[true, true, true, true, true, false, true, true, true, true, true, false, true, false, false, false, false, false, false, false] rfl rfl oK (fun _ _ _ h => h) (Or.inl ⟨by rfl, ?_⟩) ?_ ?_
 rotate_left
 · intro w'
   go_simp
   with_reducible rfl
 rotate_left
 · simp only [Act.put, List.setIfInBounds_toArray, List.set_cons_zero, List.set_cons_succ, i64_w, i32_w]
   rfl
 refine pure_ (i := 13) (N := (some 19)) (v := ?_) (a' := ?_) #[true, true, true, true, true, false, true, true, true, true, true, false, true, true, false, false, false, false, false, false] rfl rfl oK (fun _ _ _ h => h) (Or.inl ⟨by rfl, ?_⟩) ?_ ?_
 rotate_left
 · intro w'
   go_simp
   with_reducible rfl
 rotate_left
 · simp only [Act.put, List.setIfInBounds_toArray, List.set_cons_zero, List.set_cons_succ, i64_w, i32_w]
   rfl
 refine take_ (i := 14) (N := (some 20)) (v := ?_) (a' := ?_) #[true, true, true, true, true, false, true, true, true, true, true, false, true, true, true, false, false, false, false, false] rfl rfl oK (fun _ _ _ h => h) (Or.inl ⟨by rfl, ?_⟩) hHeld ?_ ?_
 rotate_left
 · intro w' s0
   go_simp
   with_reducible rfl
 rotate_left
 · simp only [Act.put, List.setIfInBounds_toArray, List.set_cons_zero, List.set_cons_succ, i64_w, i32_w]
   rfl
 refine pure_ (i := 15) (N := (some 21)) (v := ?_) (a' := ?_) #[true, true, true, true, true, false, true, true, true, true, true, false, true, true, true, true, false, false, false, false] rfl rfl oK (fun _ _ _ h => h) (Or.inl ⟨by rfl, ?_⟩) ?_ ?_
 rotate_left
 · intro w'
   go_simp
   with_reducible rfl
 rotate_left
 · simp only [Act.put, List.setIfInBounds_toArray, List.set_cons_zero, List.set_cons_succ, i64_w, i32_w]
   rfl
 refine take_ (i := 16) (N := (some 22)) (v := ?_) (a' := ?_) #[true, true, true, true, true, false, true, true, true, true, true, false, true, true, true, true, true, false, false, false] rfl rfl oK (fun _ _ _ h => h) (Or.inl ⟨by rfl, ?_⟩) hHeld ?_ ?_
 rotate_left
 · intro w' s0
   go_simp
   with_reducible rfl
 rotate_left
 · simp only [Act.put, List.setIfInBounds_toArray, List.set_cons_zero, List.set_cons_succ, i64_w, i32_w]
   rfl
 refine one_ (i := 5) (N := (some 11)) #[true, true, true, true, true, true, true, true, true, true, true, false, true, true, true, true, true, false, false, false] rfl rfl oK oD (fun K hK => ?_)
 refine call_ 98 #[.int .i64 x, .int .i64 A1, .pointer (some ⟨g1, 0, none⟩)] (by rfl) rfl (by unfold execOp; simp [resolve, Deferred.ofValue, invoke, Act.eval, hen]) ?_
 refine K1.out.mono ?_
 rintro e w' ⟨rfl, rfl⟩
 refine ⟨_, rfl, ?_⟩
 refine hK.out _ _ hHeld (fun hH1 => ?_)
 clear hK K
 try simp only [Act.put, List.setIfInBounds_toArray, List.set_cons_zero, List.set_cons_succ]
 refine one_ (i := 11) (N := (some 17)) #[true, true, true, true, true, true, true, true, true, true, true, true, true, true, true, true, true, false, false, false] rfl rfl oK oD (fun K hK => ?_)
 refine call_ 98 #[.int .i64 y, .int .i64 B1, .pointer (some ⟨g1, 0, none⟩)] (by rfl) rfl (by unfold execOp; simp [resolve, Deferred.ofValue, invoke, Act.eval, hen]) ?_
 refine K2.out.mono ?_
 rintro e w' ⟨rfl, rfl⟩
 refine ⟨_, rfl, ?_⟩
 refine hK.out _ _ hH1 (fun hH2 => ?_)
 clear hK K
 try simp only [Act.put, List.setIfInBounds_toArray, List.set_cons_zero, List.set_cons_succ]
 refine one_ (i := 17) (N := (some 23)) #[true, true, true, true, true, true, true, true, true, true, true, true, true, true, true, true, true, true, false, false] rfl rfl oK oD (fun K hK => ?_)
 refine call_ 98 #[.int .i64 z, .int .i64 C1, .pointer (some ⟨g1, 0, none⟩)] (by rfl) rfl (by unfold execOp; simp [resolve, Deferred.ofValue, invoke, Act.eval, hen]) ?_
 refine K3.out.mono ?_
 rintro e w' ⟨rfl, rfl⟩
 refine ⟨_, rfl, ?_⟩
 refine hK.out _ _ hH2 (fun hH3 => ?_)
 clear hK K
 try simp only [Act.put, List.setIfInBounds_toArray, List.set_cons_zero, List.set_cons_succ]
 refine pure_ (i := 18) (N := (some 24)) (v := ?_) (a' := ?_) #[true, true, true, true, true, true, true, true, true, true, true, true, true, true, true, true, true, true, true, false] rfl rfl oK (fun _ _ _ h => h) (Or.inl ⟨by rfl, ?_⟩) ?_ ?_
 rotate_left
 · intro w'
   go_simp
   with_reducible rfl
 rotate_left
 · simp only [Act.put, List.setIfInBounds_toArray, List.set_cons_zero, List.set_cons_succ, i64_w, i32_w]
   rfl
 refine last_ (i := 19) (N := none) #[true, true, true, true, true, true, true, true, true, true, true, true, true, true, true, true, true, true, true, true] rfl rfl oK oD (fun K hK => ?_)
 generalize W2.drew = W3 at aM HBd ⊢
 have HKy := Aside0.mk aM.out
 have y0 := blk_cell HKy.out 0
 have y1 := blk_cell HKy.out 1
 have y2 := blk_cell HKy.out 2
 have y3 := blk_cell HKy.out 3
 simp only [List.getElem?_toArray, List.getElem?_cons_zero, List.getElem?_cons_succ] at y0 y1 y2 y3
 have ff0 := blk_frozen HKy.out 0
 have ff1 := blk_frozen HKy.out 1
 have ff2 := blk_frozen HKy.out 2
 have ff3 := blk_frozen HKy.out 3
 refine skip_ (w1 := ?_) (by rfl) rfl ?_ ?_
 rotate_left
 · go_simp
   with_reducible rfl
 refine hK.out _ _ ?_
 clear hK K
 try simp only [Act.put, List.setIfInBounds_toArray, List.set_cons_zero, List.set_cons_succ]
 refine done_ oK ?_
 go_wp2
 refine bodyPost_ret (results_cell_row rfl _ _ g2 38 #[.int .i64 (overS u x A1), .int .i64 (overS u y B1), .int .i64 (overS u z C1), .int .i64 255] (0, 0) _ rfl (blk_put (blk_put (blk_put (blk_put aM.out 0 _ rfl) 1 _ rfl) 2 _ rfl) 3 _ rfl) Try.underlying38 rfl oK) rfl ?_
 exact ⟨rfl, below_set (below_set (below_set (below_set HBd.out HGEg2.out) HGEg2.out) HGEg2.out) HGEg2.out⟩
theorem R_beyond {w w1 w2 : World} {v : Value} {xs : List S38} {g : Nat} (h : Kd.R k38 38 w2 w1.heap.size (fun _ => True) v xs) (hg : g < w1.heap.size) (hb : w.heap.size ≤ w1.heap.size) : Kd.R k38 38 w2 w.heap.size (fun k => True ∧ k ≠ g) v xs :=
 Kd.R_lower (Kd.R_mono (Kd.R_bound h) (fun k hk => ⟨trivial, by have := hk.2.1; omega⟩)) hb
theorem named {kk : Nat} {fn : Func} (h1 : Try.prog.funcs[kk]? = some fn) (h2 : (fn.name == "runtime.NumGoroutine") = false) (h3 : fn.body.isSome = true) : Named kk := ⟨fn, h1, h2, h3⟩
set_option maxHeartbeats 1000000 in
set_option maxRecDepth 100000 in
theorem places_move (W H w2 h2 : Nat) (l : List S38) (fx fy : Int → Int → Int) (fs ff : Nat) (scap fcap : Array Value) (gs gf : Nat) (w : World) (hfit : FitsN W H l) (bJ : 1 ≤ w2) (bK : w2 ≤ 6) (h21 : 1 ≤ h2) (h26 : h2 ≤ 6) (hfs : Named fs) (hff : Named ff)
   (hks : w.heap[gs]? = some (.cells #[.func (.func fs) #[] scap] 74 (0, 0))) (hkf : w.heap[gf]? = some (.cells #[.func (.func ff) #[] fcap] 75 (0, 0)))
   (hS : SizeOk fs scap w W H w2 h2) (hF : FromOk ff fcap w W H w2 h2 fx fy) (hr : ∀ x y : Nat, x < w2 → y < h2 → 0 ≤ fx x y ∧ fx x y < W ∧ 0 ≤ fy x y ∧ fy x y < H) :
   MoveOk 90 #[.pointer (some ⟨gs, 0, none⟩), .pointer (some ⟨gf, 0, none⟩)] w W H l w2 h2 (grid w2 h2 (fun x y => pix W l (fx x y) (fy x y))) true := by
 intro w' A c hb hC hc
 have HR := Aside0.mk hr
 have HS := Aside0.mk hS
 have HF := Aside0.mk hF
 have HB := Aside0.mk hb
 have HKs := Aside0.mk (blk_below hks hb)
 have HKf := Aside0.mk (blk_below hkf hb)
 have HC := Aside0.mk hC
 have HFF := Aside0.mk hff
 have hent := hfs.enters
 have hu25 := Try.underlying25
 clear hS hF hb hks hkf hC hr hff hfs
 show Calls Try.prog 90 #[.agg #[.int .i64 (W : Int), .int .i64 (H : Int), .slice A l.length c], .pointer (some ⟨gs, 0, none⟩), .pointer (some ⟨gf, 0, none⟩)] w' _
 go_enter Try.func90, Try.ntmps90
 go_wp2_with (first | ((with_reducible refine gate_dst (N := 3) rfl ?_); refine box_event rfl (N := 3) rfl (cs := #[.int .i64 (W : Int), .int .i64 (H : Int), .slice A l.length c]) (t := 25) oS ?_; intro g1 hg_ W1 hk_ hb_; have aA := Aside0.mk hk_; have HBW1 := Aside0.mk (below_then (Below.refl w'.heap.size w') (Below.refl w'.heap.size w').size hb_); have HGEg1 : Aside0 (w'.heap.size ≤ g1) := ⟨(by rw [hg_]; exact (Below.refl w'.heap.size w').size)⟩; replace HKs := Aside0.mk (blk_below HKs.out hb_); replace HKf := Aside0.mk (blk_below HKf.out hb_); clear hk_ hb_ hg_) | ((with_reducible refine gate_dst (N := 4) rfl ?_); refine box_event rfl (N := 4) rfl (cs := #[.int .i64 0, .int .i64 0, .slice none 0 0]) (t := 25) oS ?_; intro g2 hg_ W2 hk_ hb_; have aB := Aside0.mk hk_; have HBW2 := Aside0.mk (below_then HBW1.out HBW1.out.size hb_); have HGEg2 : Aside0 (w'.heap.size ≤ g2) := ⟨(by rw [hg_]; exact HBW1.out.size)⟩; replace HKs := Aside0.mk (blk_below HKs.out hb_); replace HKf := Aside0.mk (blk_below HKf.out hb_); replace aA := Aside0.mk (blk_below aA.out hb_); clear hk_ hb_ hg_; have zs0 := blk_cell HKs.out 0; simp only [List.getElem?_toArray, List.getElem?_cons_zero, List.getElem?_cons_succ] at zs0; have zr0 := blk_cell aA.out 0; have zr1 := blk_cell aA.out 1; have zr2 := blk_cell aA.out 2; simp only [List.getElem?_toArray, List.getElem?_cons_zero, List.getElem?_cons_succ] at zr0 zr1 zr2))
 refine (HS.out _ A l.length c (HB.out.trans (HBW2.out.mono HB.out.size))).mono ?_
 rintro e w5 ⟨rfl, hb5⟩
 clear zs0 zr0 zr1 zr2 hent
 have aD := Aside0.mk (below_then HBW2.out HBW2.out.size hb5)
 have HKf5 := Aside0.mk (blk_below HKf.out hb5)
 have aS := Aside0.mk (blk_below aA.out hb5)
 have aQ := Aside0.mk (blk_below aB.out hb5)
 clear hb5
 have HCOL := Aside0.mk (places_colour W H w2 h2 l fx fy ff fcap gf g1 A c w5 hfit HFF.out HKf5.out aS.out (Kd.C_below HC.out aD.out) hc (fun w6 A n c x y h6 hx hy => HF.out w6 A n c x y (HB.out.trans ((aD.out.trans (h6.mono aD.out.size)).mono HB.out.size)) hx hy) HR.out)
 go_wp2_with (fail)
 refine (newRaster_calls w2 h2 91 #[.pointer (some ⟨gf, 0, none⟩), .pointer (some ⟨g1, 0, none⟩)] _ _ bJ bK h21 h26 (named Try.func91 oK rfl) HCOL.out).mono ?_
 rintro e w6 ⟨v, rfl, hr6, hb6⟩
 have aJ := Aside0.mk (below_then aD.out aD.out.size hb6)
 have aC := Aside0.mk (blk_below aQ.out hb6)
 have aK := Aside0.mk (R_beyond (w := w') hr6 (blk_lt aQ.out) aD.out.size)
 clear hr6 hb6
 obtain ⟨A6, c6, rfl⟩ := Kd.R_slice aK.out
 have y0 := blk_cell aC.out 0
 have y1 := blk_cell aC.out 1
 have y2 := blk_cell aC.out 2
 simp only [List.getElem?_toArray, List.getElem?_cons_zero, List.getElem?_cons_succ] at y0 y1 y2
 have yf0 := blk_frozen aC.out 0
 have yf1 := blk_frozen aC.out 1
 have yf2 := blk_frozen aC.out 2
 go_wp2_with (fail)
 refine bodyPost_ret (results_ct rfl _ _ g2 25 #[.int .i64 (w2 : Int), .int .i64 (h2 : Int), .slice A6 (grid w2 h2 _).length c6] (0, 0) _ rfl (blk_put (blk_put (blk_put aC.out 0 _ rfl) 1 _ rfl) 2 _ rfl) Try.underlying25 rfl oK) rfl ?_
 refine ⟨_, rfl, ?_, below_set (below_set (below_set aJ.out HGEg2.out) HGEg2.out) HGEg2.out⟩
 exact Kd.R_mono (Kd.R_far (p := ⟨g2, 2, none⟩) (Kd.R_far (p := ⟨g2, 1, none⟩) (Kd.R_far (p := ⟨g2, 0, none⟩) aK.out (fun k hk => hk.2) _) (fun k hk => hk.2) _) (fun k hk => hk.2) _) (fun _ _ => trivial)
set_option maxHeartbeats 1000000 in
set_option maxRecDepth 100000 in
theorem colours_move (W H : Nat) (l : List S38) (g : S38 → S38) (ff : Nat) (fcap : Array Value) (gf : Nat) (w : World) (hfit : FitsN W H l) (hff : Named ff)
   (hkf : w.heap[gf]? = some (.cells #[.func (.func ff) #[] fcap] 77 (0, 0))) (hF : ChangeOk ff fcap w g) :
   MoveOk 92 #[.pointer (some ⟨gf, 0, none⟩)] w W H l W H (grid W H (fun x y => g (pix W l x y))) true := by
 intro w' A c hb hC hc
 have HF := Aside0.mk hF
 have HB := Aside0.mk hb
 have HKf := Aside0.mk (blk_below hkf hb)
 have HC := Aside0.mk hC
 have HFF := Aside0.mk hff
 have hu25 := Try.underlying25
 clear hF hb hkf hC hff
 show Calls Try.prog 92 #[.agg #[.int .i64 (W : Int), .int .i64 (H : Int), .slice A l.length c], .pointer (some ⟨gf, 0, none⟩)] w' _
 go_enter Try.func92, Try.ntmps92
 go_wp2_with (first | ((with_reducible refine gate_dst (N := 2) rfl ?_); refine box_event rfl (N := 2) rfl (cs := #[.int .i64 (W : Int), .int .i64 (H : Int), .slice A l.length c]) (t := 25) oS ?_; intro g1 hg_ W1 hk_ hb_; have aA := Aside0.mk hk_; have HBW1 := Aside0.mk (below_then (Below.refl w'.heap.size w') (Below.refl w'.heap.size w').size hb_); have HGEg1 : Aside0 (w'.heap.size ≤ g1) := ⟨(by rw [hg_]; exact (Below.refl w'.heap.size w').size)⟩; replace HKf := Aside0.mk (blk_below HKf.out hb_); clear hk_ hb_ hg_) | ((with_reducible refine gate_dst (N := 3) rfl ?_); refine box_event rfl (N := 3) rfl (cs := #[.int .i64 0, .int .i64 0, .slice none 0 0]) (t := 25) oS ?_; intro g2 hg_ W2 hk_ hb_; have aB := Aside0.mk hk_; have HBW2 := Aside0.mk (below_then HBW1.out HBW1.out.size hb_); have HGEg2 : Aside0 (w'.heap.size ≤ g2) := ⟨(by rw [hg_]; exact HBW1.out.size)⟩; replace HKf := Aside0.mk (blk_below HKf.out hb_); replace aA := Aside0.mk (blk_below aA.out hb_); clear hk_ hb_ hg_; have zr0 := blk_cell aA.out 0; have zr1 := blk_cell aA.out 1; have zr2 := blk_cell aA.out 2; simp only [List.getElem?_toArray, List.getElem?_cons_zero, List.getElem?_cons_succ] at zr0 zr1 zr2))
 have HCOL := Aside0.mk (colours_colour W H l g ff fcap gf g1 A c W2 hfit HFF.out HKf.out aA.out (Kd.C_below HC.out HBW2.out) hc (fun w6 p h6 hp => HF.out w6 p (HB.out.trans ((HBW2.out.trans (h6.mono HBW2.out.size)).mono HB.out.size)) hp))
 refine (newRaster_calls W H 93 #[.pointer (some ⟨gf, 0, none⟩), .pointer (some ⟨g1, 0, none⟩)] _ _ hfit.1 hfit.2.1 hfit.2.2.1 hfit.2.2.2.1 (named Try.func93 oK rfl) HCOL.out).mono ?_
 rintro e w6 ⟨v, rfl, hr6, hb6⟩
 clear zr0 zr1 zr2
 have aJ := Aside0.mk (below_then HBW2.out HBW2.out.size hb6)
 have aC := Aside0.mk (blk_below aB.out hb6)
 have aK := Aside0.mk (R_beyond (w := w') hr6 (blk_lt aB.out) HBW2.out.size)
 clear hr6 hb6
 obtain ⟨A6, c6, rfl⟩ := Kd.R_slice aK.out
 have y0 := blk_cell aC.out 0
 have y1 := blk_cell aC.out 1
 have y2 := blk_cell aC.out 2
 simp only [List.getElem?_toArray, List.getElem?_cons_zero, List.getElem?_cons_succ] at y0 y1 y2
 have yf0 := blk_frozen aC.out 0
 have yf1 := blk_frozen aC.out 1
 have yf2 := blk_frozen aC.out 2
 go_wp2_with (fail)
 refine bodyPost_ret (results_ct rfl _ _ g2 25 #[.int .i64 (W : Int), .int .i64 (H : Int), .slice A6 (grid W H _).length c6] (0, 0) _ rfl (blk_put (blk_put (blk_put aC.out 0 _ rfl) 1 _ rfl) 2 _ rfl) Try.underlying25 rfl oK) rfl ?_
 refine ⟨_, rfl, ?_, below_set (below_set (below_set aJ.out HGEg2.out) HGEg2.out) HGEg2.out⟩
 exact Kd.R_mono (Kd.R_far (p := ⟨g2, 2, none⟩) (Kd.R_far (p := ⟨g2, 1, none⟩) (Kd.R_far (p := ⟨g2, 0, none⟩) aK.out (fun k hk => hk.2) _) (fun k hk => hk.2) _) (fun k hk => hk.2) _) (fun _ _ => trivial)
set_option maxHeartbeats 1000000 in
set_option maxRecDepth 100000 in
theorem crop_no (W H : Nat) (l : List S38) (K A1 B1 C1 D1 : Int) (go gp : Nat) (v : Value) (w : World) (ha0 : 0 ≤ A1) (ha1 : A1 ≤ 100) (hb0 : 0 ≤ B1) (hb1 : B1 ≤ 100) (bC : 0 ≤ C1) (bD : C1 ≤ 100) (hd0 : 0 ≤ D1) (hd1 : D1 ≤ 100)
   (hko : w.heap[go]? = some (.cells #[.int .i64 K, .int .i64 A1, .int .i64 B1, .int .i64 C1, .int .i64 D1] 27 (0, 0))) (hkp : w.heap[gp]? = some (.cells #[v] 55 (0, 0))) (hno : (W : Int) < A1 + C1 ∨ (H : Int) < B1 + D1) :
   MoveOk 89 #[.pointer (some ⟨go, 0, none⟩), .pointer (some ⟨gp, 0, none⟩)] w W H l 0 0 [] false := by
 by_cases h1 : (W : Int) < A1 + C1
 · intro w' A c hb hC hc
   have HB := Aside0.mk hb
   have HKo := Aside0.mk (blk_below hko hb)
   have HKp := Aside0.mk (blk_below hkp hb)
   have HC := Aside0.mk hC
   have hu25 := Try.underlying25
   have hu27 := Try.underlying27
   have e1 : IntKind.i64.wrap (A1 + C1) = A1 + C1 := by rw [i64_w]; unfold wrap64; omega
   have e2 : IntKind.i64.wrap (B1 + D1) = B1 + D1 := by rw [i64_w]; unfold wrap64; omega
   have z1 : decide ((W : Int) < A1 + C1) = true := decide_eq_true h1
   clear hb hko hkp hC
   show Calls Try.prog 89 #[.agg #[.int .i64 (W : Int), .int .i64 (H : Int), .slice A l.length c], .pointer (some ⟨go, 0, none⟩), .pointer (some ⟨gp, 0, none⟩)] w' _
   go_enter Try.func89, Try.ntmps89
   go_wp2_with (first | ((with_reducible refine gate_dst (N := 3) rfl ?_); refine box_event rfl (N := 3) rfl (cs := #[.int .i64 (W : Int), .int .i64 (H : Int), .slice A l.length c]) (t := 25) oS ?_; intro g1 hg_ W1 hk_ hb_; have aA := Aside0.mk hk_; have HBW1 := Aside0.mk (below_then (Below.refl w'.heap.size w') (Below.refl w'.heap.size w').size hb_); have HGEg1 : Aside0 (w'.heap.size ≤ g1) := ⟨(by rw [hg_]; exact (Below.refl w'.heap.size w').size)⟩; replace HKo := Aside0.mk (blk_below HKo.out hb_); replace HKp := Aside0.mk (blk_below HKp.out hb_); clear hk_ hb_ hg_) | ((with_reducible refine gate_dst (N := 4) rfl ?_); refine box_event rfl (N := 4) rfl (cs := #[.int .i64 0, .int .i64 0, .slice none 0 0]) (t := 25) oS ?_; intro g2 hg_ W2 hk_ hb_; have aB := Aside0.mk hk_; have HBW2 := Aside0.mk (below_then HBW1.out HBW1.out.size hb_); have HGEg2 : Aside0 (w'.heap.size ≤ g2) := ⟨(by rw [hg_]; exact HBW1.out.size)⟩; replace HKo := Aside0.mk (blk_below HKo.out hb_); replace HKp := Aside0.mk (blk_below HKp.out hb_); replace aA := Aside0.mk (blk_below aA.out hb_); clear hk_ hb_ hg_; have zp0 := blk_cell HKp.out 0; simp only [List.getElem?_toArray, List.getElem?_cons_zero, List.getElem?_cons_succ] at zp0; have zr0 := blk_cell aA.out 0; have zr1 := blk_cell aA.out 1; have zr2 := blk_cell aA.out 2; simp only [List.getElem?_toArray, List.getElem?_cons_zero, List.getElem?_cons_succ] at zr0 zr1 zr2; have zo0 := blk_cell HKo.out 0; have zo1 := blk_cell HKo.out 1; have zo2 := blk_cell HKo.out 2; have zo3 := blk_cell HKo.out 3; have zo4 := blk_cell HKo.out 4; simp only [List.getElem?_toArray, List.getElem?_cons_zero, List.getElem?_cons_succ] at zo0 zo1 zo2 zo3 zo4; have y0 := blk_cell aB.out 0; have y1 := blk_cell aB.out 1; have y2 := blk_cell aB.out 2; simp only [List.getElem?_toArray, List.getElem?_cons_zero, List.getElem?_cons_succ] at y0 y1 y2; have yf0 := blk_frozen aB.out 0; have yf1 := blk_frozen aB.out 1; have yf2 := blk_frozen aB.out 2))
   refine bodyPost_ret (results_ct rfl _ _ g2 25 #[.int .i64 0, .int .i64 0, .slice none 0 0] (0, 0) _ rfl (blk_put (blk_put (blk_put aB.out 0 _ rfl) 1 _ rfl) 2 _ rfl) Try.underlying25 rfl oK) rfl ?_
   exact ⟨_, rfl, Kd.R_nil _ _ _ _ _, below_set (below_set (below_set HBW2.out HGEg2.out) HGEg2.out) HGEg2.out⟩
 · intro w' A c hb hC hc
   have HB := Aside0.mk hb
   have HKo := Aside0.mk (blk_below hko hb)
   have HKp := Aside0.mk (blk_below hkp hb)
   have HC := Aside0.mk hC
   have hu25 := Try.underlying25
   have hu27 := Try.underlying27
   have e1 : IntKind.i64.wrap (A1 + C1) = A1 + C1 := by rw [i64_w]; unfold wrap64; omega
   have e2 : IntKind.i64.wrap (B1 + D1) = B1 + D1 := by rw [i64_w]; unfold wrap64; omega
   have h2 : (H : Int) < B1 + D1 := by omega
   have z1 : decide ((W : Int) < A1 + C1) = false := decide_eq_false h1
   have z2 : decide ((H : Int) < B1 + D1) = true := decide_eq_true h2
   clear hb hko hkp hC
   show Calls Try.prog 89 #[.agg #[.int .i64 (W : Int), .int .i64 (H : Int), .slice A l.length c], .pointer (some ⟨go, 0, none⟩), .pointer (some ⟨gp, 0, none⟩)] w' _
   go_enter Try.func89, Try.ntmps89
   go_wp2_with (first | ((with_reducible refine gate_dst (N := 3) rfl ?_); refine box_event rfl (N := 3) rfl (cs := #[.int .i64 (W : Int), .int .i64 (H : Int), .slice A l.length c]) (t := 25) oS ?_; intro g1 hg_ W1 hk_ hb_; have aA := Aside0.mk hk_; have HBW1 := Aside0.mk (below_then (Below.refl w'.heap.size w') (Below.refl w'.heap.size w').size hb_); have HGEg1 : Aside0 (w'.heap.size ≤ g1) := ⟨(by rw [hg_]; exact (Below.refl w'.heap.size w').size)⟩; replace HKo := Aside0.mk (blk_below HKo.out hb_); replace HKp := Aside0.mk (blk_below HKp.out hb_); clear hk_ hb_ hg_) | ((with_reducible refine gate_dst (N := 4) rfl ?_); refine box_event rfl (N := 4) rfl (cs := #[.int .i64 0, .int .i64 0, .slice none 0 0]) (t := 25) oS ?_; intro g2 hg_ W2 hk_ hb_; have aB := Aside0.mk hk_; have HBW2 := Aside0.mk (below_then HBW1.out HBW1.out.size hb_); have HGEg2 : Aside0 (w'.heap.size ≤ g2) := ⟨(by rw [hg_]; exact HBW1.out.size)⟩; replace HKo := Aside0.mk (blk_below HKo.out hb_); replace HKp := Aside0.mk (blk_below HKp.out hb_); replace aA := Aside0.mk (blk_below aA.out hb_); clear hk_ hb_ hg_; have zp0 := blk_cell HKp.out 0; simp only [List.getElem?_toArray, List.getElem?_cons_zero, List.getElem?_cons_succ] at zp0; have zr0 := blk_cell aA.out 0; have zr1 := blk_cell aA.out 1; have zr2 := blk_cell aA.out 2; simp only [List.getElem?_toArray, List.getElem?_cons_zero, List.getElem?_cons_succ] at zr0 zr1 zr2; have zo0 := blk_cell HKo.out 0; have zo1 := blk_cell HKo.out 1; have zo2 := blk_cell HKo.out 2; have zo3 := blk_cell HKo.out 3; have zo4 := blk_cell HKo.out 4; simp only [List.getElem?_toArray, List.getElem?_cons_zero, List.getElem?_cons_succ] at zo0 zo1 zo2 zo3 zo4; have y0 := blk_cell aB.out 0; have y1 := blk_cell aB.out 1; have y2 := blk_cell aB.out 2; simp only [List.getElem?_toArray, List.getElem?_cons_zero, List.getElem?_cons_succ] at y0 y1 y2; have yf0 := blk_frozen aB.out 0; have yf1 := blk_frozen aB.out 1; have yf2 := blk_frozen aB.out 2))
   refine bodyPost_ret (results_ct rfl _ _ g2 25 #[.int .i64 0, .int .i64 0, .slice none 0 0] (0, 0) _ rfl (blk_put (blk_put (blk_put aB.out 0 _ rfl) 1 _ rfl) 2 _ rfl) Try.underlying25 rfl oK) rfl ?_
   exact ⟨_, rfl, Kd.R_nil _ _ _ _ _, below_set (below_set (below_set HBW2.out HGEg2.out) HGEg2.out) HGEg2.out⟩
set_option maxHeartbeats 1000000 in
set_option maxRecDepth 100000 in
theorem crop_yes (W H : Nat) (l : List S38) (K A1 B1 C1 D1 : Int) (go gp fp : Nat) (pcap : Array Value) (px : List S38) (w : World) (ha0 : 0 ≤ A1) (ha1 : A1 ≤ 100) (hb0 : 0 ≤ B1) (hb1 : B1 ≤ 100) (bC : 0 ≤ C1) (bD : C1 ≤ 100) (hd0 : 0 ≤ D1) (hd1 : D1 ≤ 100) (hfp : Named fp)
   (hko : w.heap[go]? = some (.cells #[.int .i64 K, .int .i64 A1, .int .i64 B1, .int .i64 C1, .int .i64 D1] 27 (0, 0))) (hkp : w.heap[gp]? = some (.cells #[.func (.func fp) #[] pcap] 55 (0, 0))) (h1 : A1 + C1 ≤ (W : Int)) (h2 : B1 + D1 ≤ (H : Int)) (hM : MoveOk fp pcap w W H l C1 D1 px true) :
   MoveOk 89 #[.pointer (some ⟨go, 0, none⟩), .pointer (some ⟨gp, 0, none⟩)] w W H l C1 D1 px true := by
 intro w' A c hb hC hc
 have HB := Aside0.mk hb
 have HKo := Aside0.mk (blk_below hko hb)
 have HKp := Aside0.mk (blk_below hkp hb)
 have HC := Aside0.mk hC
 have hu25 := Try.underlying25
 have hu27 := Try.underlying27
 have e1 : IntKind.i64.wrap (A1 + C1) = A1 + C1 := by rw [i64_w]; unfold wrap64; omega
 have e2 : IntKind.i64.wrap (B1 + D1) = B1 + D1 := by rw [i64_w]; unfold wrap64; omega
 have z1 : decide ((W : Int) < A1 + C1) = false := decide_eq_false (by omega)
 have z2 : decide ((H : Int) < B1 + D1) = false := decide_eq_false (by omega)
 have HM := Aside0.mk hM
 have hent := hfp.enters
 clear hM hfp
 clear hb hko hkp hC
 show Calls Try.prog 89 #[.agg #[.int .i64 (W : Int), .int .i64 (H : Int), .slice A l.length c], .pointer (some ⟨go, 0, none⟩), .pointer (some ⟨gp, 0, none⟩)] w' _
 go_enter Try.func89, Try.ntmps89
 go_wp2_with (first | ((with_reducible refine gate_dst (N := 3) rfl ?_); refine box_event rfl (N := 3) rfl (cs := #[.int .i64 (W : Int), .int .i64 (H : Int), .slice A l.length c]) (t := 25) oS ?_; intro g1 hg_ W1 hk_ hb_; have aA := Aside0.mk hk_; have HBW1 := Aside0.mk (below_then (Below.refl w'.heap.size w') (Below.refl w'.heap.size w').size hb_); have HGEg1 : Aside0 (w'.heap.size ≤ g1) := ⟨(by rw [hg_]; exact (Below.refl w'.heap.size w').size)⟩; replace HKo := Aside0.mk (blk_below HKo.out hb_); replace HKp := Aside0.mk (blk_below HKp.out hb_); clear hk_ hb_ hg_) | ((with_reducible refine gate_dst (N := 4) rfl ?_); refine box_event rfl (N := 4) rfl (cs := #[.int .i64 0, .int .i64 0, .slice none 0 0]) (t := 25) oS ?_; intro g2 hg_ W2 hk_ hb_; have aB := Aside0.mk hk_; have HBW2 := Aside0.mk (below_then HBW1.out HBW1.out.size hb_); have HGEg2 : Aside0 (w'.heap.size ≤ g2) := ⟨(by rw [hg_]; exact HBW1.out.size)⟩; replace HKo := Aside0.mk (blk_below HKo.out hb_); replace HKp := Aside0.mk (blk_below HKp.out hb_); replace aA := Aside0.mk (blk_below aA.out hb_); clear hk_ hb_ hg_; have zp0 := blk_cell HKp.out 0; simp only [List.getElem?_toArray, List.getElem?_cons_zero, List.getElem?_cons_succ] at zp0; have zr0 := blk_cell aA.out 0; have zr1 := blk_cell aA.out 1; have zr2 := blk_cell aA.out 2; simp only [List.getElem?_toArray, List.getElem?_cons_zero, List.getElem?_cons_succ] at zr0 zr1 zr2; have zo0 := blk_cell HKo.out 0; have zo1 := blk_cell HKo.out 1; have zo2 := blk_cell HKo.out 2; have zo3 := blk_cell HKo.out 3; have zo4 := blk_cell HKo.out 4; simp only [List.getElem?_toArray, List.getElem?_cons_zero, List.getElem?_cons_succ] at zo0 zo1 zo2 zo3 zo4; have y0 := blk_cell aB.out 0; have y1 := blk_cell aB.out 1; have y2 := blk_cell aB.out 2; simp only [List.getElem?_toArray, List.getElem?_cons_zero, List.getElem?_cons_succ] at y0 y1 y2; have yf0 := blk_frozen aB.out 0; have yf1 := blk_frozen aB.out 1; have yf2 := blk_frozen aB.out 2))
 refine (HM.out _ A c (HB.out.trans (HBW2.out.mono HB.out.size)) (Kd.C_below HC.out HBW2.out) hc).mono ?_
 rintro e w6 ⟨v, rfl, hr6, hb6⟩
 have aJ := Aside0.mk (below_then HBW2.out HBW2.out.size hb6)
 have aC := Aside0.mk (blk_below aB.out hb6)
 have aK := Aside0.mk (R_beyond (w := w') hr6 (blk_lt aB.out) HBW2.out.size)
 clear hr6 hb6 zp0 zr0 zr1 zr2 zo0 zo1 zo2 zo3 zo4 y0 y1 y2 yf0 yf1 yf2
 obtain ⟨A6, c6, rfl⟩ := Kd.R_slice aK.out
 have y0 := blk_cell aC.out 0
 have y1 := blk_cell aC.out 1
 have y2 := blk_cell aC.out 2
 simp only [List.getElem?_toArray, List.getElem?_cons_zero, List.getElem?_cons_succ] at y0 y1 y2
 have yf0 := blk_frozen aC.out 0
 have yf1 := blk_frozen aC.out 1
 have yf2 := blk_frozen aC.out 2
 go_wp2_with (fail)
 refine bodyPost_ret (results_ct rfl _ _ g2 25 #[.int .i64 (C1), .int .i64 (D1), .slice A6 px.length c6] (0, 0) _ rfl (blk_put (blk_put (blk_put aC.out 0 _ rfl) 1 _ rfl) 2 _ rfl) Try.underlying25 rfl oK) rfl ?_
 refine ⟨_, rfl, ?_, below_set (below_set (below_set aJ.out HGEg2.out) HGEg2.out) HGEg2.out⟩
 exact Kd.R_mono (Kd.R_far (p := ⟨g2, 2, none⟩) (Kd.R_far (p := ⟨g2, 1, none⟩) (Kd.R_far (p := ⟨g2, 0, none⟩) aK.out (fun k hk => hk.2) _) (fun k hk => hk.2) _) (fun k hk => hk.2) _) (fun _ _ => trivial)
section
theorem max2_mx (k k' : IntKind) (x y : Int) : Builtin.max2 (.int k x) (.int k' y) = pure (.int k (mx x y)) := max2_int k k' x y
theorem min2_mn (k k' : IntKind) (x y : Int) : Builtin.min2 (.int k x) (.int k' y) = pure (.int k (mn x y)) := min2_int k k' x y
attribute [local go_sem high] max2_mx min2_mn max_two min_two
/-- A sum of so many. -/
def sumS (f : Nat → Int) : Nat → Int
 | 0 => 0
 | n + 1 => sumS f n + f n
theorem sumS_bd {f : Nat → Int} (h : ∀ i, 0 ≤ f i ∧ f i ≤ 255) : ∀ n : Nat, 0 ≤ sumS f n ∧ sumS f n ≤ 255 * n
 | 0 => ⟨by simp [sumS], by simp [sumS]⟩
 | n + 1 => by
   have := sumS_bd h n
   have := h n
   simp only [sumS]
   omega
/-- The rows about a place, the first m whole. -/
def totS (F : Nat → Nat → Int) (x0 y0 nx m : Nat) : Int := sumS (fun r => sumS (fun c => F (x0 + c) (y0 + r)) nx) m
def curS (F : Nat → Nat → Int) (x0 y0 nx m i : Nat) : Int := totS F x0 y0 nx m + sumS (fun c => F (x0 + c) (y0 + m)) i
theorem curS_zero (F : Nat → Nat → Int) (x0 y0 nx m : Nat) : curS F x0 y0 nx m 0 = totS F x0 y0 nx m := by simp [curS, sumS]
theorem curS_succ (F : Nat → Nat → Int) (x0 y0 nx m i : Nat) : curS F x0 y0 nx m (i + 1) = curS F x0 y0 nx m i + F (x0 + i) (y0 + m) := by simp only [curS, sumS]; omega
theorem curS_full (F : Nat → Nat → Int) (x0 y0 nx m : Nat) : curS F x0 y0 nx m nx = totS F x0 y0 nx (m + 1) := rfl
theorem totS_bd {F : Nat → Nat → Int} (h : ∀ a b, 0 ≤ F a b ∧ F a b ≤ 255) (x0 y0 nx m : Nat) (hn : nx ≤ 3) (hm : m ≤ 3) : 0 ≤ totS F x0 y0 nx m ∧ totS F x0 y0 nx m ≤ 2295 := by
 have hr (r : Nat) : 0 ≤ sumS (fun c => F (x0 + c) (y0 + r)) nx ∧ sumS (fun c => F (x0 + c) (y0 + r)) nx ≤ 765 := by
   have := sumS_bd (f := fun c => F (x0 + c) (y0 + r)) (fun i => h _ _) nx
   omega
 unfold totS
 match m, hm with
 | 0, _ => simp [sumS]
 | 1, _ => have := hr 0; simp only [sumS]; omega
 | 2, _ => have := hr 0; have := hr 1; simp only [sumS]; omega
 | 3, _ => have := hr 0; have := hr 1; have := hr 2; simp only [sumS]; omega
theorem curS_bd {F : Nat → Nat → Int} (h : ∀ a b, 0 ≤ F a b ∧ F a b ≤ 255) (x0 y0 nx m i : Nat) (hn : nx ≤ 3) (hm : m ≤ 3) (hi : i ≤ 3) : 0 ≤ curS F x0 y0 nx m i ∧ curS F x0 y0 nx m i ≤ 3060 := by
 have h1 := totS_bd h x0 y0 nx m hn hm
 have h2 := sumS_bd (f := fun c => F (x0 + c) (y0 + m)) (fun i => h _ _) i
 unfold curS
 omega
/-- How many columns, or rows, lie about one. -/
def aboutN (x W : Nat) : Nat := min (x + 1) (W - 1) + 1 - (x - 1)
def fieldS (W : Nat) (l : List S38) (p : S38 → Int) (a b : Nat) : Int := p (pix W l (a : Int) (b : Int))
def blurS (W H : Nat) (l : List S38) (x y : Int) : S38 :=
 ⟨totS (fieldS W l S38.f0) (x.toNat - 1) (y.toNat - 1) (aboutN x.toNat W) (aboutN y.toNat H) / ((aboutN y.toNat H * aboutN x.toNat W : Nat) : Int), totS (fieldS W l S38.f1) (x.toNat - 1) (y.toNat - 1) (aboutN x.toNat W) (aboutN y.toNat H) / ((aboutN y.toNat H * aboutN x.toNat W : Nat) : Int),
  totS (fieldS W l S38.f2) (x.toNat - 1) (y.toNat - 1) (aboutN x.toNat W) (aboutN y.toNat H) / ((aboutN y.toNat H * aboutN x.toNat W : Nat) : Int), totS (fieldS W l S38.f3) (x.toNat - 1) (y.toNat - 1) (aboutN x.toNat W) (aboutN y.toNat H) / ((aboutN y.toNat H * aboutN x.toNat W : Nat) : Int)⟩
theorem fieldS_bd {W H : Nat} {l : List S38} (h : FitsN W H l) : (∀ a b, 0 ≤ fieldS W l S38.f0 a b ∧ fieldS W l S38.f0 a b ≤ 255) ∧ (∀ a b, 0 ≤ fieldS W l S38.f1 a b ∧ fieldS W l S38.f1 a b ≤ 255) ∧ (∀ a b, 0 ≤ fieldS W l S38.f2 a b ∧ fieldS W l S38.f2 a b ≤ 255) ∧ (∀ a b, 0 ≤ fieldS W l S38.f3 a b ∧ fieldS W l S38.f3 a b ≤ 255) :=
 ⟨fun a b => (h.pixP a b).1, fun a b => (h.pixP a b).2.1, fun a b => (h.pixP a b).2.2.1, fun a b => (h.pixP a b).2.2.2⟩
/-- A struct is stored whole into a block of its own. -/
theorem storeblk {P : Program} {ops : Array Oper} {rest : List Oper} {o : Oper} {a : Act} {Q : Exit → Act → World → Prop} {w0 W : World} {g t t' : Nat} {cs cs' : Array Value} (p x : Operand) (hN : o.dst = none) (hgd : o.guard = none) (ho : o.op = .store t p x)
   (haddr : a.eval p = .pointer (some ⟨g, 0, none⟩)) (hx : a.eval x = .agg cs') (hk : W.heap[g]? = some (.cells cs t' (0, 0))) (hsz : cs'.size = cs.size) (ht : (P.info? t).map (·.size) = some cs.size) (h1 : ∀ q ∈ cs'.toList, q.oneCell' = true) (hc : (Value.agg cs').cells = cs') (HB : Below w0.heap.size w0 W) (hge : w0.heap.size ≤ g)
   (h : ∀ w1, w1.heap[g]? = some (.cells cs' t' (0, 0)) → (∀ k, k ≠ g → w1.heap[k]? = W.heap[k]?) → Below w0.heap.size w0 w1 → wpList P ops Q rest a w1) : wpList P ops Q (o :: rest) a W := by
 have hlen : cs'.toList.length = cs.size := by rw [Array.length_toList, hsz]
 obtain ⟨cur', h3, h4, h5⟩ := setCells_row (g := g) cs'.toList 0 W cs hk (by rw [hlen]; omega)
 obtain ⟨s1, s2, s3, s4⟩ := setCells_same g cs'.toList 0 W
 have hcur : cur' = cs' := by
   apply Array.toList_inj.mp
   rw [h5, List.take_zero, List.nil_append, List.drop_of_length_le (by rw [hlen, Array.length_toList]; omega), List.append_nil]
 rw [hcur] at h3
 have hrun : (Instr.storeAt t (.pointer (some ⟨g, 0, none⟩)) (.agg cs')).run P W = .ok () (W.setCells g 0 cs'.toList) := run_store_run t _ cs'.toList hk (by rw [hc]) (by rw [hlen]; exact ht) (by rw [hlen]; omega) h1
 refine wpList_plain hgd fun K hK => ?_
 unfold Oper.wp execOp
 simp only [ho, haddr, hx, Sem.run_bind, Sem.run_pure, Result.andThen_ok, hrun]
 show K (a.put o.dst undef) _
 rw [hN]
 exact hK a _ (h _ h3 (fun k hk => setCells_far _ _ k hk) (HB.trans ⟨s1, s2, s3, by rw [s4]; exact Nat.le_refl _, fun k hk => setCells_far _ _ k (by omega)⟩))
theorem blk_of_far {w w1 : World} {g k : Nat} {o : Obj} (hf : ∀ k, k ≠ g → w1.heap[k]? = w.heap[k]?) (hk : k ≠ g) (h : w.heap[k]? = some o) : w1.heap[k]? = some o := (hf k hk).trans h
theorem quoS (s : Int) (n : Nat) (h0 : 0 ≤ s) (h1 : s ≤ 2295) (hn : 1 ≤ n) : IntKind.i64.wrap (Int.tdiv s (n : Int)) = s / (n : Int) := by
 rw [Int.tdiv_eq_ediv_of_nonneg h0, i64_w]
 have := Int.ediv_le_self (n : Int) h0
 have := Int.ediv_nonneg h0 (show (0 : Int) ≤ n by omega)
 unfold wrap64; omega
set_option maxHeartbeats 1000000 in
set_option maxRecDepth 100000 in
theorem blur_colour (W H : Nat) (l : List S38) (gr : Nat) (A : Option Addr) (c : Nat) (w : World) (hfit : FitsN W H l)
   (hkr : w.heap[gr]? = some (.cells #[.int .i64 (W : Int), .int .i64 (H : Int), .slice A l.length c] 25 (0, 0))) (hC : Kd.C k38 w A l.length l) (hc : l.length ≤ c) : Colours 94 #[.pointer (some ⟨gr, 0, none⟩)] W H (blurS W H l) w := by
 intro w' x y hb hx hy
 obtain ⟨b0, b1, b2, b3⟩ := fieldS_bd hfit
 have HBD := Aside0.mk (And.intro b0 (And.intro b1 (And.intro b2 b3)))
 have HFIT := Aside0.mk hfit
 have HB := Aside0.mk hb
 have HKr := Aside0.mk (blk_below hkr hb)
 have HC := Aside0.mk (Kd.C_below hC hb)
 have hu25 := Try.underlying25
 have hu38 := Try.underlying38
 have hW6 := hfit.2.1
 have hH6 := hfit.2.2.2.1
 clear hb hkr hC b0 b1 b2 b3 hfit
 obtain ⟨x0, aG⟩ : ∃ x0, x - 1 = x0 := ⟨_, rfl⟩
 obtain ⟨y0, hy0⟩ : ∃ y0, y - 1 = y0 := ⟨_, rfl⟩
 obtain ⟨nx, hnx⟩ : ∃ nx, aboutN x W = nx := ⟨_, rfl⟩
 obtain ⟨ny, hny⟩ : ∃ ny, aboutN y H = ny := ⟨_, rfl⟩
 have hxs : 1 ≤ nx ∧ nx ≤ 3 ∧ x0 + nx ≤ W ∧ min (x + 1) (W - 1) = x0 + nx - 1 := by unfold aboutN at hnx; omega
 have hys : 1 ≤ ny ∧ ny ≤ 3 ∧ y0 + ny ≤ H ∧ min (y + 1) (H - 1) = y0 + ny - 1 := by unfold aboutN at hny; omega
 obtain ⟨aI, aF, aV, bI⟩ := hxs
 obtain ⟨hy1, hy2, hy3, hy4⟩ := hys
 have ex0 : mx ((x : Int) - 1) 0 = (x0 : Int) := by unfold mx; omega
 have ey0 : mx ((y : Int) - 1) 0 = (y0 : Int) := by unfold mx; omega
 have ex1 : mn ((x : Int) + 1) ((W : Int) - 1) = (x0 : Int) + (nx : Int) - 1 := by unfold mn; omega
 have ey1 : mn ((y : Int) + 1) ((H : Int) - 1) = (y0 : Int) + (ny : Int) - 1 := by unfold mn; omega
 have HXS := Aside0.mk (And.intro aG (And.intro hy0 (And.intro hnx hny)))
 clear aG hy0 hnx hny bI hy4
 show Calls Try.prog 94 #[.int .i64 (x : Int), .int .i64 (y : Int), .pointer (some ⟨gr, 0, none⟩)] w' _
 go_enter Try.func94, Try.ntmps94
 go_wp2_with (first | ((with_reducible refine gate_dst (N := 5) rfl ?_); refine box_event rfl (N := 5) rfl (cs := #[.int .i64 0, .int .i64 0, .int .i64 0, .int .i64 0]) (t := 38) oS ?_; intro g1 hg_ W1 hk_ hb_; have aA := Aside0.mk hk_; have HBW1 := Aside0.mk (below_then (Below.refl w'.heap.size w') (Below.refl w'.heap.size w').size hb_); have HGEg1 : Aside0 (w'.heap.size ≤ g1) := ⟨(by rw [hg_]; exact (Below.refl w'.heap.size w').size)⟩; have HNrg1 := Aside0.mk (Nat.ne_of_lt (Nat.lt_of_lt_of_eq (blk_lt HKr.out) hg_.symm)); replace HKr := Aside0.mk (blk_below HKr.out hb_); clear hk_ hb_ hg_) | ((with_reducible refine gate_dst (N := 6) rfl ?_); refine box_event rfl (N := 6) rfl (cs := #[.int .i64 0, .int .i64 0, .int .i64 0, .int .i64 0]) (t := 38) oS ?_; intro g2 hg_ W2 hk_ hb_; have aB := Aside0.mk hk_; have HBW2 := Aside0.mk (below_then HBW1.out HBW1.out.size hb_); have HGEg2 : Aside0 (w'.heap.size ≤ g2) := ⟨(by rw [hg_]; exact HBW1.out.size)⟩; have HNrg2 := Aside0.mk (Nat.ne_of_lt (Nat.lt_of_lt_of_eq (blk_lt HKr.out) hg_.symm)); replace HKr := Aside0.mk (blk_below HKr.out hb_); have HNg1g2 := Aside0.mk (Nat.ne_of_lt (Nat.lt_of_lt_of_eq (blk_lt aA.out) hg_.symm)); replace aA := Aside0.mk (blk_below aA.out hb_); clear hk_ hb_ hg_))
 go_loopw [7, 8] (fun v7 v8 wr => ∃ (m n : Nat) (s0 s1 s2 s3 : Int), m ≤ ny ∧ n ≤ 9 ∧ Aside0 (n = m * nx) ∧ v7 = .int .i64 (n : Int) ∧ v8 = .int .i64 ((y0 : Int) + (m : Int)) ∧ Aside0 (s0 = totS (fieldS W l S38.f0) x0 y0 nx m ∧ s1 = totS (fieldS W l S38.f1) x0 y0 nx m ∧ s2 = totS (fieldS W l S38.f2) x0 y0 nx m ∧ s3 = totS (fieldS W l S38.f3) x0 y0 nx m) ∧ Aside0 (wr.heap[g1]? = some (.cells #[.int .i64 0, .int .i64 0, .int .i64 0, .int .i64 0] 38 (0, 0))) ∧ Aside0 (wr.heap[g2]? = some (.cells #[.int .i64 s0, .int .i64 s1, .int .i64 s2, .int .i64 s3] 38 (0, 0))) ∧ Aside0 (wr.heap[gr]? = some (.cells #[.int .i64 (W : Int), .int .i64 (H : Int), .slice A l.length c] 25 (0, 0))) ∧ Aside0 (Below w'.heap.size w' wr)) (fun _ v8 _ => (y0 + ny) - (intOf v8).toNat)
 case atStart => exact ⟨0, 0, 0, 0, 0, 0, by omega, by omega, ⟨(by rw [Nat.zero_mul])⟩, rfl, by go_num, ⟨⟨rfl, rfl, rfl, rfl⟩⟩, aA, aB, HKr, HBW2⟩
 case round =>
   obtain ⟨m, n, s0, s1, s2, s3, hm, bL, HN, rfl, rfl, HT, HK1, HK2, HKR, HBR⟩ := hrel
   have zr0 := blk_cell HKR.out 0
   have zr1 := blk_cell HKR.out 1
   have zr2 := blk_cell HKR.out 2
   simp only [List.getElem?_toArray, List.getElem?_cons_zero, List.getElem?_cons_succ] at zr0 zr1 zr2
   by_cases hlt : m < ny
   ·have hdl : decide ((y0 : Int) + (m : Int) ≤ (y0 : Int) + (ny : Int) - 1) = true := decide_eq_true (by omega)
    go_wp2_with (fail)
    obtain ⟨wo, rfl⟩ : ∃ wo : World, wo = wr := ⟨_, rfl⟩
    go_loopw [7, 9] (fun v7 v9 wi => ∃ (i : Nat) (s0 s1 s2 s3 : Int), i ≤ nx ∧ v7 = .int .i64 ((n : Int) + (i : Int)) ∧ v9 = .int .i64 ((x0 : Int) + (i : Int)) ∧ Aside0 (s0 = curS (fieldS W l S38.f0) x0 y0 nx m i ∧ s1 = curS (fieldS W l S38.f1) x0 y0 nx m i ∧ s2 = curS (fieldS W l S38.f2) x0 y0 nx m i ∧ s3 = curS (fieldS W l S38.f3) x0 y0 nx m i) ∧ Aside0 (wi.heap[g1]? = some (.cells #[.int .i64 0, .int .i64 0, .int .i64 0, .int .i64 0] 38 (0, 0))) ∧ Aside0 (wi.heap[g2]? = some (.cells #[.int .i64 s0, .int .i64 s1, .int .i64 s2, .int .i64 s3] 38 (0, 0))) ∧ Aside0 (wi.heap[gr]? = some (.cells #[.int .i64 (W : Int), .int .i64 (H : Int), .slice A l.length c] 25 (0, 0))) ∧ Aside0 (Below w'.heap.size w' wi)) (fun _ v9 _ => (x0 + nx) - (intOf v9).toNat)
    case atStart => exact ⟨0, s0, s1, s2, s3, by omega, by go_num, by go_num, ⟨(by rw [curS_zero, curS_zero, curS_zero, curS_zero]; exact HT.out)⟩, HK1, HK2, HKR, HBR⟩
    case round =>
     obtain ⟨i, t0, t1, t2, t3, hi, rfl, rfl, HU, HK3, HK4, HK5, aD⟩ := hrel
     rename World => wi
     clear zr0 zr1 zr2
     have zr0 := blk_cell HK5.out 0
     have zr1 := blk_cell HK5.out 1
     have zr2 := blk_cell HK5.out 2
     simp only [List.getElem?_toArray, List.getElem?_cons_zero, List.getElem?_cons_succ] at zr0 zr1 zr2
     by_cases hil : i < nx
     ·have HPX := Aside0.mk (pixOf_ok HFIT.out ((x0 : Int) + (i : Int)) ((y0 : Int) + (m : Int)) (by omega) (by omega) (by omega) (by omega))
      have hF0 : pix W l ((x0 : Int) + (i : Int)) ((y0 : Int) + (m : Int)) = pix W l (((x0 + i : Nat)) : Int) (((y0 + m : Nat)) : Int) := by rw [Int.natCast_add, Int.natCast_add]
      have HPP := Aside0.mk (HFIT.out.pixP ((x0 : Int) + (i : Int)) ((y0 : Int) + (m : Int)))
      have HF0 := Aside0.mk hF0
      clear hF0
      generalize pix W l ((x0 : Int) + (i : Int)) ((y0 : Int) + (m : Int)) = p at HPX HPP HF0
      go_wp2_with (fail)
      refine (impl_pixOf.calls W H A c l _ _ p.f0 p.f1 p.f2 p.f3 _ (Kd.C_below HC.out aD.out) hc HPX.out).mono ?_
      rintro e w6 ⟨rfl, hb6⟩
      have HBW6 := Aside0.mk (below_then aD.out aD.out.size hb6)
      have HKa := Aside0.mk (blk_below HK3.out hb6)
      have HKb := Aside0.mk (blk_below HK4.out hb6)
      have HKc := Aside0.mk (blk_below HK5.out hb6)
      clear hb6 zr0 zr1 zr2
      obtain ⟨⟨pa0, pa1⟩, ⟨pb0, pb1⟩, ⟨pc0, pc1⟩, ⟨pd0, pd1⟩⟩ := HPP.out
      obtain ⟨hz0, hz1, hz2, hz3⟩ := HU.out
      obtain ⟨d0, d1, d2, d3⟩ := HBD.out
      have c0 := curS_bd d0 x0 y0 nx m i aF (by omega) (by omega)
      have c1 := curS_bd d1 x0 y0 nx m i aF (by omega) (by omega)
      have c2 := curS_bd d2 x0 y0 nx m i aF (by omega) (by omega)
      have c3 := curS_bd d3 x0 y0 nx m i aF (by omega) (by omega)
      rw [← hz0] at c0
      rw [← hz1] at c1
      rw [← hz2] at c2
      rw [← hz3] at c3
      clear hz0 hz1 hz2 hz3 d0 d1 d2 d3
      go_wp2_with (first | ((with_reducible refine gate_dst (N := 10) rfl ?_); refine box_event rfl (N := 10) rfl (cs := #[.int .i64 0, .int .i64 0, .int .i64 0, .int .i64 0]) (t := 38) oS ?_; intro g3 hg_ W7 hk_ hb_; have aE := Aside0.mk hk_; have HBW7 := Aside0.mk (below_then HBW6.out HBW6.out.size hb_); have HGEg3 : Aside0 (w'.heap.size ≤ g3) := ⟨(by rw [hg_]; exact HBW6.out.size)⟩; have HNag3 := Aside0.mk (Nat.ne_of_lt (Nat.lt_of_lt_of_eq (blk_lt HKa.out) hg_.symm)); replace HKa := Aside0.mk (blk_below HKa.out hb_); have HNbg3 := Aside0.mk (Nat.ne_of_lt (Nat.lt_of_lt_of_eq (blk_lt HKb.out) hg_.symm)); replace HKb := Aside0.mk (blk_below HKb.out hb_); have HNcg3 := Aside0.mk (Nat.ne_of_lt (Nat.lt_of_lt_of_eq (blk_lt HKc.out) hg_.symm)); replace HKc := Aside0.mk (blk_below HKc.out hb_); clear hk_ hb_ hg_) | ((with_reducible refine gate_ (.store 38 (.tmp 10) (.tmp 40)) rfl ?_); refine storeblk (t := 38) (t' := 38) (cs' := #[.int .i64 p.f0, .int .i64 p.f1, .int .i64 p.f2, .int .i64 p.f3]) (.tmp 10) (.tmp 40) rfl rfl rfl rfl rfl aE.out rfl oK (by intro q hq; simp only [List.mem_cons, List.not_mem_nil, or_false] at hq; rcases hq with rfl | rfl | rfl | rfl <;> rfl) (by simp [Value.cells]) HBW7.out HGEg3.out ?_; intro w8 hk8 hf8 hb8; replace aE := Aside0.mk hk8; replace HKa := Aside0.mk (blk_of_far hf8 HNag3.out HKa.out); replace HKb := Aside0.mk (blk_of_far hf8 HNbg3.out HKb.out); replace HKc := Aside0.mk (blk_of_far hf8 HNcg3.out HKc.out); have aW := Aside0.mk hb8; clear hk8 hf8 hb8; have p0 := blk_cell aE.out 0; have p1 := blk_cell aE.out 1; have p2 := blk_cell aE.out 2; have p3 := blk_cell aE.out 3; simp only [List.getElem?_toArray, List.getElem?_cons_zero, List.getElem?_cons_succ] at p0 p1 p2 p3; have q0 := blk_cell HKb.out 0; have q1 := blk_cell HKb.out 1; have q2 := blk_cell HKb.out 2; have q3 := blk_cell HKb.out 3; simp only [List.getElem?_toArray, List.getElem?_cons_zero, List.getElem?_cons_succ] at q0 q1 q2 q3; have qf0 := blk_frozen HKb.out 0; have qf1 := blk_frozen HKb.out 1; have qf2 := blk_frozen HKb.out 2; have qf3 := blk_frozen HKb.out 3; have hne := Ne.symm HNbg3.out))
      go_roundw
      case rel => exact ⟨i + 1, _, _, _, _, by omega, by go_num, by go_num, ⟨(by obtain ⟨hz0, hz1, hz2, hz3⟩ := HU.out; rw [curS_succ, curS_succ, curS_succ, curS_succ, ← hz0, ← hz1, ← hz2, ← hz3]; unfold fieldS; rw [← HF0.out]; exact ⟨rfl, rfl, rfl, rfl⟩)⟩, ⟨blk_far (blk_far (blk_far (blk_far HKa.out (p := ⟨g2, 0, none⟩) HNg1g2.out _) (p := ⟨g2, 1, none⟩) HNg1g2.out _) (p := ⟨g2, 2, none⟩) HNg1g2.out _) (p := ⟨g2, 3, none⟩) HNg1g2.out _⟩, ⟨blk_put (blk_put (blk_put (blk_put HKb.out 0 _ rfl) 1 _ rfl) 2 _ rfl) 3 _ rfl⟩, ⟨blk_far (blk_far (blk_far (blk_far HKc.out (p := ⟨g2, 0, none⟩) HNrg2.out _) (p := ⟨g2, 1, none⟩) HNrg2.out _) (p := ⟨g2, 2, none⟩) HNrg2.out _) (p := ⟨g2, 3, none⟩) HNrg2.out _⟩, ⟨below_set (below_set (below_set (below_set aW.out HGEg2.out) HGEg2.out) HGEg2.out) HGEg2.out⟩⟩
      case measure => simp [intOf]; omega
     ·obtain rfl : i = nx := by omega
      go_wp2_with (fail)
      go_roundw
      case rel => exact ⟨m + 1, n + i, t0, t1, t2, t3, by omega, by have := Nat.mul_le_mul (show m + 1 ≤ 3 by omega) aF; rw [HN.out, ← Nat.succ_mul]; exact this, ⟨(by rw [HN.out, Nat.succ_mul])⟩, by go_num, by go_num, HU, HK3, HK4, HK5, aD⟩
      case measure => simp [intOf]; omega
   ·obtain rfl : m = ny := by omega
    have h9 := Nat.mul_le_mul hy1 aI
    have aU : 1 ≤ n := by rw [HN.out]; exact h9
    obtain ⟨hz0, hz1, hz2, hz3⟩ := HT.out
    obtain ⟨d0, d1, d2, d3⟩ := HBD.out
    have c0 := totS_bd d0 x0 y0 nx m aF hy2
    have c1 := totS_bd d1 x0 y0 nx m aF hy2
    have c2 := totS_bd d2 x0 y0 nx m aF hy2
    have c3 := totS_bd d3 x0 y0 nx m aF hy2
    rw [← hz0] at c0
    rw [← hz1] at c1
    rw [← hz2] at c2
    rw [← hz3] at c3
    clear hz0 hz1 hz2 hz3 d0 d1 d2 d3 h9
    have q0 := quoS s0 n c0.1 c0.2 aU
    have q1 := quoS s1 n c1.1 c1.2 aU
    have q2 := quoS s2 n c2.1 c2.2 aU
    have q3 := quoS s3 n c3.1 c3.2 aU
    have nz : ((n : Int) == 0) = false := beq_eq_false_iff_ne.mpr (by omega)
    have nz2 : ¬ (n : Int) = 0 := by omega
    have nz3 : n ≠ 0 := by omega
    go_wp2_with (fail)
    have HK1d := Aside0.mk (blk_drew HK1.out)
    have HBd := Aside0.mk (below_drew HBR.out)
    have v0 := blk_cell HK2.out 0
    have v1 := blk_cell HK2.out 1
    have v2 := blk_cell HK2.out 2
    have v3 := blk_cell HK2.out 3
    simp only [List.getElem?_toArray, List.getElem?_cons_zero, List.getElem?_cons_succ] at v0 v1 v2 v3
    refine start_ (n := 18) (S := fun w'' => w''.cell? ⟨g2, 0, none⟩ = some (.int .i64 s0) ∧ w''.cell? ⟨g2, 1, none⟩ = some (.int .i64 s1) ∧ w''.cell? ⟨g2, 2, none⟩ = some (.int .i64 s2) ∧ w''.cell? ⟨g2, 3, none⟩ = some (.int .i64 s3)) (ds := [17]) #[false, false, false, false, false, false, false, false, false, false, false, false, false, false, false, false, false, false] oK rfl rfl ⟨v0, v1, v2, v3⟩ (fun hHeld => ?_)
    refine pure_ (i := 0) (N := (some 67)) (v := ?_) (a' := ?_) #[true, false, false, false, false, false, false, false, false, false, false, false, false, false, false, false, false, false] rfl rfl oK (fun _ _ _ h => h) (Or.inl ⟨by rfl, ?_⟩) ?_ ?_
    rotate_left
    ·intro w'
     go_simp
     with_reducible rfl
    rotate_left
    ·exact oT
    refine take_ (i := 1) (N := (some 68)) (v := ?_) (a' := ?_) #[true, true, false, false, false, false, false, false, false, false, false, false, false, false, false, false, false, false] rfl rfl oK (fun _ _ _ h => h) (Or.inl ⟨by rfl, ?_⟩) hHeld ?_ ?_
    rotate_left
    ·intro w' s0
     go_simp
     with_reducible rfl
    rotate_left
    ·exact oT
    refine pure_ (i := 2) (N := (some 69)) (v := ?_) (a' := ?_) #[true, true, true, false, false, false, false, false, false, false, false, false, false, false, false, false, false, false] rfl rfl oK (fun _ _ _ h => h) (Or.inl ⟨by rfl, ?_⟩) ?_ ?_
    rotate_left
    ·intro w'
     go_simp
     with_reducible rfl
    rotate_left
    ·exact oT
    refine pure_ (i := 3) (N := (some 70)) (v := ?_) (a' := ?_) #[true, true, true, true, false, false, false, false, false, false, false, false, false, false, false, false, false, false] rfl rfl oK (fun _ _ _ h => h) (Or.inl ⟨by rfl, ?_⟩) ?_ ?_
    rotate_left
    ·intro w'
     go_simp
     with_reducible rfl
    rotate_left
    ·exact oT
    refine pure_ (i := 4) (N := (some 71)) (v := ?_) (a' := ?_) #[true, true, true, true, true, false, false, false, false, false, false, false, false, false, false, false, false, false] rfl rfl oK (fun _ _ _ h => h) (Or.inl ⟨by rfl, ?_⟩) ?_ ?_
    rotate_left
    ·intro w'
     go_simp
     with_reducible rfl
    rotate_left
    ·exact oT
    refine take_ (i := 5) (N := (some 72)) (v := ?_) (a' := ?_) #[true, true, true, true, true, true, false, false, false, false, false, false, false, false, false, false, false, false] rfl rfl oK (fun _ _ _ h => h) (Or.inl ⟨by rfl, ?_⟩) hHeld ?_ ?_
    rotate_left
    ·intro w' s0
     go_simp
     with_reducible rfl
    rotate_left
    ·exact oT
    refine pure_ (i := 6) (N := (some 73)) (v := ?_) (a' := ?_) #[true, true, true, true, true, true, true, false, false, false, false, false, false, false, false, false, false, false] rfl rfl oK (fun _ _ _ h => h) (Or.inl ⟨by rfl, ?_⟩) ?_ ?_
    rotate_left
    ·intro w'
     go_simp
     with_reducible rfl
    rotate_left
    ·exact oT
    refine pure_ (i := 7) (N := (some 74)) (v := ?_) (a' := ?_) #[true, true, true, true, true, true, true, true, false, false, false, false, false, false, false, false, false, false] rfl rfl oK (fun _ _ _ h => h) (Or.inl ⟨by rfl, ?_⟩) ?_ ?_
    rotate_left
    ·intro w'
     go_simp
     with_reducible rfl
    rotate_left
    ·exact oT
    refine pure_ (i := 8) (N := (some 75)) (v := ?_) (a' := ?_) #[true, true, true, true, true, true, true, true, true, false, false, false, false, false, false, false, false, false] rfl rfl oK (fun _ _ _ h => h) (Or.inl ⟨by rfl, ?_⟩) ?_ ?_
    rotate_left
    ·intro w'
     go_simp
     with_reducible rfl
    rotate_left
    ·exact oT
    refine take_ (i := 9) (N := (some 76)) (v := ?_) (a' := ?_) #[true, true, true, true, true, true, true, true, true, true, false, false, false, false, false, false, false, false] rfl rfl oK (fun _ _ _ h => h) (Or.inl ⟨by rfl, ?_⟩) hHeld ?_ ?_
    rotate_left
    ·intro w' s0
     go_simp
     with_reducible rfl
    rotate_left
    ·exact oT
    refine pure_ (i := 10) (N := (some 77)) (v := ?_) (a' := ?_) #[true, true, true, true, true, true, true, true, true, true, true, false, false, false, false, false, false, false] rfl rfl oK (fun _ _ _ h => h) (Or.inl ⟨by rfl, ?_⟩) ?_ ?_
    rotate_left
    ·intro w'
     go_simp
     with_reducible rfl
    rotate_left
    ·exact oT
    refine pure_ (i := 11) (N := (some 78)) (v := ?_) (a' := ?_) #[true, true, true, true, true, true, true, true, true, true, true, true, false, false, false, false, false, false] rfl rfl oK (fun _ _ _ h => h) (Or.inl ⟨by rfl, ?_⟩) ?_ ?_
    rotate_left
    ·intro w'
     go_simp
     with_reducible rfl
    rotate_left
    ·exact oT
    refine pure_ (i := 12) (N := (some 79)) (v := ?_) (a' := ?_) #[true, true, true, true, true, true, true, true, true, true, true, true, true, false, false, false, false, false] rfl rfl oK (fun _ _ _ h => h) (Or.inl ⟨by rfl, ?_⟩) ?_ ?_
    rotate_left
    ·intro w'
     go_simp
     with_reducible rfl
    rotate_left
    ·exact oT
    refine take_ (i := 13) (N := (some 80)) (v := ?_) (a' := ?_) #[true, true, true, true, true, true, true, true, true, true, true, true, true, true, false, false, false, false] rfl rfl oK (fun _ _ _ h => h) (Or.inl ⟨by rfl, ?_⟩) hHeld ?_ ?_
    rotate_left
    ·intro w' s0
     go_simp
     with_reducible rfl
    rotate_left
    ·exact oT
    refine pure_ (i := 14) (N := (some 81)) (v := ?_) (a' := ?_) #[true, true, true, true, true, true, true, true, true, true, true, true, true, true, true, false, false, false] rfl rfl oK (fun _ _ _ h => h) (Or.inl ⟨by rfl, ?_⟩) ?_ ?_
    rotate_left
    ·intro w'
     go_simp
     with_reducible rfl
    rotate_left
    ·exact oT
    refine pure_ (i := 15) (N := (some 82)) (v := ?_) (a' := ?_) #[true, true, true, true, true, true, true, true, true, true, true, true, true, true, true, true, false, false] rfl rfl oK (fun _ _ _ h => h) (Or.inl ⟨by rfl, ?_⟩) ?_ ?_
    rotate_left
    ·intro w'
     go_simp
     with_reducible rfl
    rotate_left
    ·exact oT
    refine pure_ (i := 16) (N := (some 83)) (v := ?_) (a' := ?_) #[true, true, true, true, true, true, true, true, true, true, true, true, true, true, true, true, true, false] rfl rfl oK (fun _ _ _ h => h) (Or.inl ⟨by rfl, ?_⟩) ?_ ?_
    rotate_left
    ·intro w'
     go_simp
     with_reducible rfl
    rotate_left
    ·exact oT
    refine last_ (i := 17) (N := none) #[true, true, true, true, true, true, true, true, true, true, true, true, true, true, true, true, true, true] rfl rfl oK oD (fun K hK => ?_)
    generalize wr.drew = W3 at HK1d HBd ⊢
    have HKy := Aside0.mk HK1d.out
    have y0 := blk_cell HK1d.out 0
    have y1 := blk_cell HK1d.out 1
    have y2 := blk_cell HK1d.out 2
    have y3 := blk_cell HK1d.out 3
    simp only [List.getElem?_toArray, List.getElem?_cons_zero, List.getElem?_cons_succ] at y0 y1 y2 y3
    have ff0 := blk_frozen HK1d.out 0
    have ff1 := blk_frozen HK1d.out 1
    have ff2 := blk_frozen HK1d.out 2
    have ff3 := blk_frozen HK1d.out 3
    refine skip_ (w1 := ?_) (by rfl) rfl ?_ ?_
    rotate_left
    ·go_simp
     with_reducible rfl
    refine hK.out _ _ ?_
    clear hK K
    try simp only [Act.put, List.setIfInBounds_toArray, List.set_cons_zero, List.set_cons_succ]
    refine done_ oK ?_
    go_wp2
    refine bodyPost_ret (results_cell_row rfl _ _ g1 38 #[.int .i64 (s0 / (n : Int)), .int .i64 (s1 / (n : Int)), .int .i64 (s2 / (n : Int)), .int .i64 (s3 / (n : Int))] (0, 0) _ rfl (blk_put (blk_put (blk_put (blk_put HK1d.out 0 _ rfl) 1 _ rfl) 2 _ rfl) 3 _ rfl) Try.underlying38 rfl oK) rfl ?_
    refine ⟨?_, below_set (below_set (below_set (below_set HBd.out HGEg1.out) HGEg1.out) HGEg1.out) HGEg1.out⟩
    unfold blurS
    obtain ⟨hz0, hz1, hz2, hz3⟩ := HT.out
    obtain ⟨aG, hy0, hnx, hny⟩ := HXS.out
    rw [Int.toNat_natCast, Int.toNat_natCast, aG, hy0, hnx, hny, ← HN.out, ← hz0, ← hz1, ← hz2, ← hz3]
end
set_option maxHeartbeats 1000000 in
set_option maxRecDepth 100000 in
theorem blur_move (W H : Nat) (l : List S38) (w : World) (hfit : FitsN W H l) : MoveOk 77 #[] w W H l W H (grid W H (blurS W H l)) true := by
 intro w' A c hb hC hc
 have HC := Aside0.mk hC
 have hu25 := Try.underlying25
 clear hb hC
 show Calls Try.prog 77 #[.agg #[.int .i64 (W : Int), .int .i64 (H : Int), .slice A l.length c]] w' _
 go_enter Try.func77, Try.ntmps77
 go_wp2_with (first | ((with_reducible refine gate_dst (N := 1) rfl ?_); refine box_event rfl (N := 1) rfl (cs := #[.int .i64 (W : Int), .int .i64 (H : Int), .slice A l.length c]) (t := 25) oS ?_; intro g1 hg_ W1 hk_ hb_; have aA := Aside0.mk hk_; have HBW1 := Aside0.mk (below_then (Below.refl w'.heap.size w') (Below.refl w'.heap.size w').size hb_); have HGEg1 : Aside0 (w'.heap.size ≤ g1) := ⟨(by rw [hg_]; exact (Below.refl w'.heap.size w').size)⟩; clear hk_ hb_ hg_) | ((with_reducible refine gate_dst (N := 2) rfl ?_); refine box_event rfl (N := 2) rfl (cs := #[.int .i64 0, .int .i64 0, .slice none 0 0]) (t := 25) oS ?_; intro g2 hg_ W2 hk_ hb_; have aB := Aside0.mk hk_; have HBW2 := Aside0.mk (below_then HBW1.out HBW1.out.size hb_); have HGEg2 : Aside0 (w'.heap.size ≤ g2) := ⟨(by rw [hg_]; exact HBW1.out.size)⟩; have HNg1g2 := Aside0.mk (Nat.ne_of_lt (Nat.lt_of_lt_of_eq (blk_lt aA.out) hg_.symm)); replace aA := Aside0.mk (blk_below aA.out hb_); clear hk_ hb_ hg_; have zr0 := blk_cell aA.out 0; have zr1 := blk_cell aA.out 1; have zr2 := blk_cell aA.out 2; simp only [List.getElem?_toArray, List.getElem?_cons_zero, List.getElem?_cons_succ] at zr0 zr1 zr2))
 have HCOL := Aside0.mk (blur_colour W H l g1 A c W2 hfit aA.out (Kd.C_below HC.out HBW2.out) hc)
 refine (newRaster_calls W H 94 #[.pointer (some ⟨g1, 0, none⟩)] _ _ hfit.1 hfit.2.1 hfit.2.2.1 hfit.2.2.2.1 (named Try.func94 oK rfl) HCOL.out).mono ?_
 rintro e w6 ⟨v, rfl, hr6, hb6⟩
 clear zr0 zr1 zr2
 have aJ := Aside0.mk (below_then HBW2.out HBW2.out.size hb6)
 have aC := Aside0.mk (blk_below aB.out hb6)
 have aK := Aside0.mk (R_beyond (w := w') hr6 (blk_lt aB.out) HBW2.out.size)
 clear hr6 hb6
 obtain ⟨A6, c6, rfl⟩ := Kd.R_slice aK.out
 have y0 := blk_cell aC.out 0
 have y1 := blk_cell aC.out 1
 have y2 := blk_cell aC.out 2
 simp only [List.getElem?_toArray, List.getElem?_cons_zero, List.getElem?_cons_succ] at y0 y1 y2
 have yf0 := blk_frozen aC.out 0
 have yf1 := blk_frozen aC.out 1
 have yf2 := blk_frozen aC.out 2
 go_wp2_with (fail)
 refine bodyPost_ret (results_ct rfl _ _ g2 25 #[.int .i64 (W : Int), .int .i64 (H : Int), .slice A6 (grid W H _).length c6] (0, 0) _ rfl (blk_put (blk_put (blk_put aC.out 0 _ rfl) 1 _ rfl) 2 _ rfl) Try.underlying25 rfl oK) rfl ?_
 refine ⟨_, rfl, ?_, below_set (below_set (below_set aJ.out HGEg2.out) HGEg2.out) HGEg2.out⟩
 exact Kd.R_mono (Kd.R_far (p := ⟨g2, 2, none⟩) (Kd.R_far (p := ⟨g2, 1, none⟩) (Kd.R_far (p := ⟨g2, 0, none⟩) aK.out (fun k hk => hk.2) _) (fun k hk => hk.2) _) (fun k hk => hk.2) _) (fun _ _ => trivial)
/-- A value of one cell is stored into a block of its own. -/
theorem storeone {P : Program} {ops : Array Oper} {rest : List Oper} {o : Oper} {a : Act} {Q : Exit → Act → World → Prop} {w0 W : World} {g t t' : Nat} {v0 v : Value} (p x : Operand) (hN : o.dst = none) (hgd : o.guard = none) (ho : o.op = .store t p x)
   (haddr : a.eval p = .pointer (some ⟨g, 0, none⟩)) (hx : a.eval x = v) (hk : W.heap[g]? = some (.cells #[v0] t' (0, 0))) (ht : (P.info? t).map (·.size) = some 1) (h1 : v.oneCell' = true) (hc : v.cells = #[v]) (HB : Below w0.heap.size w0 W) (hge : w0.heap.size ≤ g)
   (h : ∀ w1, w1.heap[g]? = some (.cells #[v] t' (0, 0)) → (∀ k, k ≠ g → w1.heap[k]? = W.heap[k]?) → Below w0.heap.size w0 w1 → wpList P ops Q rest a w1) : wpList P ops Q (o :: rest) a W := by
 obtain ⟨cur', h3, h4, h5⟩ := setCells_row (g := g) [v] 0 W #[v0] hk (by simp)
 obtain ⟨s1, s2, s3, s4⟩ := setCells_same g [v] 0 W
 have hcur : cur' = #[v] := by
   apply Array.toList_inj.mp
   rw [h5]; simp
 rw [hcur] at h3
 have hrun : (Instr.storeAt t (.pointer (some ⟨g, 0, none⟩)) v).run P W = .ok () (W.setCells g 0 [v]) := run_store_run t _ [v] hk (by rw [hc]) ht (by simp) (fun q hq => by rw [List.mem_singleton.1 hq]; exact h1)
 refine wpList_plain hgd fun K hK => ?_
 unfold Oper.wp execOp
 simp only [ho, haddr, hx, Sem.run_bind, Sem.run_pure, Result.andThen_ok, hrun]
 show K (a.put o.dst undef) _
 rw [hN]
 exact hK a _ (h _ h3 (fun k hk => setCells_far _ _ k hk) (HB.trans ⟨s1, s2, s3, by rw [s4]; exact Nat.le_refl _, fun k hk => setCells_far _ _ k (by omega)⟩))
set_option maxHeartbeats 1000000 in
set_option maxRecDepth 100000 in
theorem movePlaces_calls (a b : Nat) (ca cb : Array Value) (w : World) : Calls Try.prog 69 #[.func (.func a) #[] ca, .func (.func b) #[] cb] w fun e w' => ∃ gs gf, e = .returned (.func (.func 90) #[] #[.pointer (some ⟨gs, 0, none⟩), .pointer (some ⟨gf, 0, none⟩)]) ∧ w'.heap[gs]? = some (.cells #[.func (.func a) #[] ca] 74 (0, 0)) ∧ w'.heap[gf]? = some (.cells #[.func (.func b) #[] cb] 75 (0, 0)) ∧ Below w.heap.size w w' := by
 go_enter Try.func69, Try.ntmps69
 go_wp2_with (first | ((with_reducible refine gate_dst (N := 2) rfl ?_); refine box_event rfl (N := 2) rfl (cs := #[.func (.func a) #[] ca]) (t := 74) oS ?_; intro g1 hg_ W1 hk_ hb_; have aA := Aside0.mk hk_; have HBW1 := Aside0.mk (below_then (Below.refl w.heap.size w) (Below.refl w.heap.size w).size hb_); have HGEg1 : Aside0 (w.heap.size ≤ g1) := ⟨(by rw [hg_]; exact (Below.refl w.heap.size w).size)⟩; clear hk_ hb_ hg_) | ((with_reducible refine gate_dst (N := 3) rfl ?_); refine box_event rfl (N := 3) rfl (cs := #[.func (.func b) #[] cb]) (t := 75) oS ?_; intro g2 hg_ W2 hk_ hb_; have aB := Aside0.mk hk_; have HBW2 := Aside0.mk (below_then HBW1.out HBW1.out.size hb_); have HGEg2 : Aside0 (w.heap.size ≤ g2) := ⟨(by rw [hg_]; exact HBW1.out.size)⟩; have HNg1g2 := Aside0.mk (Nat.ne_of_lt (Nat.lt_of_lt_of_eq (blk_lt aA.out) hg_.symm)); replace aA := Aside0.mk (blk_below aA.out hb_); clear hk_ hb_ hg_))
 go_ret
 exact ⟨g1, g2, rfl, aA.out, aB.out, HBW2.out⟩
set_option maxHeartbeats 1000000 in
set_option maxRecDepth 100000 in
theorem moveColours_calls (a : Nat) (ca : Array Value) (w : World) : Calls Try.prog 75 #[.func (.func a) #[] ca] w fun e w' => ∃ gf, e = .returned (.func (.func 92) #[] #[.pointer (some ⟨gf, 0, none⟩)]) ∧ w'.heap[gf]? = some (.cells #[.func (.func a) #[] ca] 77 (0, 0)) ∧ Below w.heap.size w w' := by
 go_enter Try.func75, Try.ntmps75
 go_wp2_with ((with_reducible refine gate_dst (N := 1) rfl ?_); refine box_event rfl (N := 1) rfl (cs := #[.func (.func a) #[] ca]) (t := 77) oS ?_; intro g1 hg_ W1 hk_ hb_; have aA := Aside0.mk hk_; have HBW1 := Aside0.mk (below_then (Below.refl w.heap.size w) (Below.refl w.heap.size w).size hb_); have HGEg1 : Aside0 (w.heap.size ≤ g1) := ⟨(by rw [hg_]; exact (Below.refl w.heap.size w).size)⟩; clear hk_ hb_ hg_)
 go_ret
 exact ⟨g1, rfl, aA.out, HBW1.out⟩
set_option maxHeartbeats 1000000 in
set_option maxRecDepth 100000 in
theorem cropMove_calls (K A1 B1 C1 D1 : Int) (w : World) : Calls Try.prog 68 #[.agg #[.int .i64 K, .int .i64 A1, .int .i64 B1, .int .i64 C1, .int .i64 D1]] w fun e w' => ∃ go gp gs gf, e = .returned (.func (.func 89) #[] #[.pointer (some ⟨go, 0, none⟩), .pointer (some ⟨gp, 0, none⟩)]) ∧ w'.heap[go]? = some (.cells #[.int .i64 K, .int .i64 A1, .int .i64 B1, .int .i64 C1, .int .i64 D1] 27 (0, 0)) ∧ w'.heap[gp]? = some (.cells #[.func (.func 90) #[] #[.pointer (some ⟨gs, 0, none⟩), .pointer (some ⟨gf, 0, none⟩)]] 55 (0, 0)) ∧ w'.heap[gs]? = some (.cells #[.func (.func 87) #[] #[.pointer (some ⟨go, 0, none⟩)]] 74 (0, 0)) ∧ w'.heap[gf]? = some (.cells #[.func (.func 88) #[] #[.pointer (some ⟨go, 0, none⟩)]] 75 (0, 0)) ∧ Below w.heap.size w w' := by
 have hu27 := Try.underlying27
 go_enter Try.func68, Try.ntmps68
 go_wp2_with ((with_reducible refine gate_dst (N := 1) rfl ?_); refine box_event rfl (N := 1) rfl (cs := #[.int .i64 K, .int .i64 A1, .int .i64 B1, .int .i64 C1, .int .i64 D1]) (t := 27) oS ?_; intro g1 hg_ W1 hk_ hb_; have aA := Aside0.mk hk_; have HBW1 := Aside0.mk (below_then (Below.refl w.heap.size w) (Below.refl w.heap.size w).size hb_); have HGEg1 : Aside0 (w.heap.size ≤ g1) := ⟨(by rw [hg_]; exact (Below.refl w.heap.size w).size)⟩; clear hk_ hb_ hg_)
 refine (movePlaces_calls 87 88 _ _ _).mono ?_
 rintro e w5 ⟨gs, gf, rfl, hs5, hf5, hb5⟩
 have aD := Aside0.mk (below_then HBW1.out HBW1.out.size hb5)
 have HKo := Aside0.mk (blk_below aA.out hb5)
 have HKs := Aside0.mk hs5
 have HKf := Aside0.mk hf5
 clear hs5 hf5 hb5
 go_wp2_with (first | ((with_reducible refine gate_dst (N := 3) rfl ?_); refine box_event rfl (N := 3) rfl (cs := #[.nilFunc]) (t := 55) oS ?_; intro g2 hg_ W2 hk_ hb_; have aB := Aside0.mk hk_; have HBW2 := Aside0.mk (below_then aD.out aD.out.size hb_); have HGEg2 : Aside0 (w.heap.size ≤ g2) := ⟨(by rw [hg_]; exact aD.out.size)⟩; have HNog2 := Aside0.mk (Nat.ne_of_lt (Nat.lt_of_lt_of_eq (blk_lt HKo.out) hg_.symm)); replace HKo := Aside0.mk (blk_below HKo.out hb_); have HNsg2 := Aside0.mk (Nat.ne_of_lt (Nat.lt_of_lt_of_eq (blk_lt HKs.out) hg_.symm)); replace HKs := Aside0.mk (blk_below HKs.out hb_); have HNfg2 := Aside0.mk (Nat.ne_of_lt (Nat.lt_of_lt_of_eq (blk_lt HKf.out) hg_.symm)); replace HKf := Aside0.mk (blk_below HKf.out hb_); clear hk_ hb_ hg_) | ((with_reducible refine gate_ (.store 55 (.tmp 3) (.tmp 6)) rfl ?_); (refine storeone (v0 := .nilFunc) (v := .func (.func 90) #[] #[.pointer (some ⟨gs, 0, none⟩), .pointer (some ⟨gf, 0, none⟩)]) (t := 55) (t' := 55) (.tmp 3) (.tmp 6) rfl rfl rfl rfl rfl aB.out oK rfl (by simp [Value.cells]) HBW2.out HGEg2.out ?_); intro w8 hk8 hf8 hb8; replace aB := Aside0.mk hk8; replace HKo := Aside0.mk (blk_of_far hf8 HNog2.out HKo.out); replace HKs := Aside0.mk (blk_of_far hf8 HNsg2.out HKs.out); replace HKf := Aside0.mk (blk_of_far hf8 HNfg2.out HKf.out); have aW := Aside0.mk hb8; clear hk8 hf8 hb8))
 go_ret
 exact ⟨g1, g2, gs, gf, rfl, HKo.out, aB.out, HKs.out, HKf.out, aW.out⟩
set_option maxHeartbeats 1000000 in
set_option maxRecDepth 100000 in
theorem sizeMove_calls (K A1 B1 C1 D1 : Int) (w : World) : Calls Try.prog 78 #[.agg #[.int .i64 K, .int .i64 A1, .int .i64 B1, .int .i64 C1, .int .i64 D1]] w fun e w' => ∃ go gs gf, e = .returned (.func (.func 90) #[] #[.pointer (some ⟨gs, 0, none⟩), .pointer (some ⟨gf, 0, none⟩)]) ∧ w'.heap[go]? = some (.cells #[.int .i64 K, .int .i64 A1, .int .i64 B1, .int .i64 C1, .int .i64 D1] 27 (0, 0)) ∧ w'.heap[gs]? = some (.cells #[.func (.func 95) #[] #[.pointer (some ⟨go, 0, none⟩)]] 74 (0, 0)) ∧ w'.heap[gf]? = some (.cells #[.func (.func 96) #[] #[.pointer (some ⟨go, 0, none⟩)]] 75 (0, 0)) ∧ Below w.heap.size w w' := by
 have hu27 := Try.underlying27
 go_enter Try.func78, Try.ntmps78
 go_wp2_with ((with_reducible refine gate_dst (N := 1) rfl ?_); refine box_event rfl (N := 1) rfl (cs := #[.int .i64 K, .int .i64 A1, .int .i64 B1, .int .i64 C1, .int .i64 D1]) (t := 27) oS ?_; intro g1 hg_ W1 hk_ hb_; have aA := Aside0.mk hk_; have HBW1 := Aside0.mk (below_then (Below.refl w.heap.size w) (Below.refl w.heap.size w).size hb_); have HGEg1 : Aside0 (w.heap.size ≤ g1) := ⟨(by rw [hg_]; exact (Below.refl w.heap.size w).size)⟩; clear hk_ hb_ hg_)
 refine (movePlaces_calls 95 96 _ _ _).mono ?_
 rintro e w5 ⟨gs, gf, rfl, hs5, hf5, hb5⟩
 have aD := Aside0.mk (below_then HBW1.out HBW1.out.size hb5)
 have HKo := Aside0.mk (blk_below aA.out hb5)
 have HKs := Aside0.mk hs5
 have HKf := Aside0.mk hf5
 clear hs5 hf5 hb5
 go_wp2_with (fail)
 go_ret
 exact ⟨g1, gs, gf, rfl, HKo.out, HKs.out, HKf.out, aD.out⟩
set_option maxHeartbeats 1000000 in
set_option maxRecDepth 100000 in
theorem flatMove_calls (K A1 B1 C1 D1 : Int) (w : World) : Calls Try.prog 79 #[.agg #[.int .i64 K, .int .i64 A1, .int .i64 B1, .int .i64 C1, .int .i64 D1]] w fun e w' => ∃ go gf, e = .returned (.func (.func 92) #[] #[.pointer (some ⟨gf, 0, none⟩)]) ∧ w'.heap[go]? = some (.cells #[.int .i64 K, .int .i64 A1, .int .i64 B1, .int .i64 C1, .int .i64 D1] 27 (0, 0)) ∧ w'.heap[gf]? = some (.cells #[.func (.func 97) #[] #[.pointer (some ⟨go, 0, none⟩)]] 77 (0, 0)) ∧ Below w.heap.size w w' := by
 have hu27 := Try.underlying27
 go_enter Try.func79, Try.ntmps79
 go_wp2_with ((with_reducible refine gate_dst (N := 1) rfl ?_); refine box_event rfl (N := 1) rfl (cs := #[.int .i64 K, .int .i64 A1, .int .i64 B1, .int .i64 C1, .int .i64 D1]) (t := 27) oS ?_; intro g1 hg_ W1 hk_ hb_; have aA := Aside0.mk hk_; have HBW1 := Aside0.mk (below_then (Below.refl w.heap.size w) (Below.refl w.heap.size w).size hb_); have HGEg1 : Aside0 (w.heap.size ≤ g1) := ⟨(by rw [hg_]; exact (Below.refl w.heap.size w).size)⟩; clear hk_ hb_ hg_)
 refine (moveColours_calls 97 _ _).mono ?_
 rintro e w5 ⟨gf, rfl, hf5, hb5⟩
 have aD := Aside0.mk (below_then HBW1.out HBW1.out.size hb5)
 have HKo := Aside0.mk (blk_below aA.out hb5)
 have HKf := Aside0.mk hf5
 clear hf5 hb5
 go_wp2_with (fail)
 go_ret
 exact ⟨g1, gf, rfl, HKo.out, HKf.out, aD.out⟩
/-- What may be done: the numbers' bounds. -/
def OpP (K A1 B1 C1 D1 : Int) : Prop :=
 (K = 1 ∧ 0 ≤ A1 ∧ A1 ≤ 5 ∧ 0 ≤ B1 ∧ B1 ≤ 5 ∧ 1 ≤ C1 ∧ C1 ≤ 6 ∧ 1 ≤ D1 ∧ D1 ≤ 6) ∨ (2 ≤ K ∧ K ≤ 6 ∧ A1 = 0 ∧ B1 = 0 ∧ C1 = 0 ∧ D1 = 0) ∨ (K = 7 ∧ 1 ≤ A1 ∧ A1 ≤ 6 ∧ 1 ≤ B1 ∧ B1 ≤ 6 ∧ C1 = 0 ∧ D1 = 0) ∨ (K = 8 ∧ 0 ≤ A1 ∧ A1 ≤ 255 ∧ 0 ≤ B1 ∧ B1 ≤ 255 ∧ 0 ≤ C1 ∧ C1 ≤ 255 ∧ D1 = 0)
instance (K A1 B1 C1 D1 : Int) : Decidable (OpP K A1 B1 C1 D1) := by unfold OpP; infer_instance
/-- What is done with a picture. -/
def opGo (W H : Nat) (l : List S38) (K A1 B1 C1 D1 : Int) : Int × Int × List S38 × Bool :=
 if K = 1 then (if (W : Int) < A1 + C1 ∨ (H : Int) < B1 + D1 then (0, 0, [], false) else (C1, D1, grid C1.toNat D1.toNat (fun x y => pix W l (A1 + x) (B1 + y)), true))
 else if K = 2 then ((W : Int), (H : Int), grid W H (fun x y => pix W l ((W : Int) - 1 - x) y), true)
 else if K = 3 then ((W : Int), (H : Int), grid W H (fun x y => pix W l x ((H : Int) - 1 - y)), true)
 else if K = 4 then ((H : Int), (W : Int), grid H W (fun x y => pix W l y ((H : Int) - 1 - x)), true)
 else if K = 5 then ((W : Int), (H : Int), grid W H (fun x y => grayS (pix W l x y)), true)
 else if K = 6 then ((W : Int), (H : Int), grid W H (blurS W H l), true)
 else if K = 7 then (A1, B1, grid A1.toNat B1.toNat (fun x y => pix W l ((2 * x + 1) * (W : Int) / (2 * A1)) ((2 * y + 1) * (H : Int) / (2 * B1))), true)
 else ((W : Int), (H : Int), grid W H (fun x y => flatS A1 B1 C1 (pix W l x y)), true)
def MoveR (ff : Nat) (fcap : Array Value) (w : World) (W H : Nat) (l : List S38) (r : Int × Int × List S38 × Bool) : Prop := MoveOk ff fcap w W H l r.1 r.2.1 r.2.2.1 r.2.2.2
theorem below_le {w w' w2 : World} (h : Below w.heap.size w w') (k : Below w'.heap.size w' w2) : Below w.heap.size w w2 := h.trans (k.mono h.size)
theorem size_mul_lt {x W A : Nat} (hx : x < A) (hA : 1 ≤ A) (hW : 1 ≤ W) : 0 ≤ (2 * (x : Int) + 1) * (W : Int) / (2 * (A : Int)) ∧ (2 * (x : Int) + 1) * (W : Int) / (2 * (A : Int)) < W := by
 have h0 : 0 ≤ (2 * (x : Int) + 1) * (W : Int) := Int.mul_nonneg (by omega) (by omega)
 refine ⟨Int.ediv_nonneg h0 (by omega), Int.ediv_lt_of_lt_mul (by omega) ?_⟩
 rw [Int.mul_comm (W : Int)]
 exact Int.mul_lt_mul_of_pos_right (by omega) (by omega)
set_option maxHeartbeats 1000000 in
set_option maxRecDepth 100000 in
theorem move2 (W H : Nat) (l : List S38) (w : World) (hfit : FitsN W H l) : Calls Try.prog 47 #[.agg #[.int .i64 2, .int .i64 0, .int .i64 0, .int .i64 0, .int .i64 0]] w fun e w' => ∃ ff fcap, e = .returned (.func (.func ff) #[] fcap) ∧ Named ff ∧ MoveR ff fcap w' W H l (opGo W H l 2 0 0 0 0) ∧ Below w.heap.size w w' := by
 have hu27 := Try.underlying27
 have HF := Aside0.mk hfit
 clear hfit
 go_enter Try.func47, Try.ntmps47
 go_wp2_with ((with_reducible refine gate_dst (N := 1) rfl ?_); refine box_event rfl (N := 1) rfl (cs := #[.int .i64 2, .int .i64 0, .int .i64 0, .int .i64 0, .int .i64 0]) (t := 27) oS ?_; intro g1 hg_ W1 hk_ hb_; have aA := Aside0.mk hk_; have HBW1 := Aside0.mk (below_then (Below.refl w.heap.size w) (Below.refl w.heap.size w).size hb_); have HGEg1 : Aside0 (w.heap.size ≤ g1) := ⟨(by rw [hg_]; exact (Below.refl w.heap.size w).size)⟩; clear hk_ hb_ hg_; have zo0 := blk_cell aA.out 0; have zo1 := blk_cell aA.out 1; have zo2 := blk_cell aA.out 2; have zo3 := blk_cell aA.out 3; have zo4 := blk_cell aA.out 4; simp only [List.getElem?_toArray, List.getElem?_cons_zero, List.getElem?_cons_succ] at zo0 zo1 zo2 zo3 zo4)
 refine (movePlaces_calls 70 71 #[] #[] _).mono ?_
 rintro e w5 ⟨gs, gf, rfl, hs5, hf5, hb5⟩
 have aD := Aside0.mk (below_then HBW1.out HBW1.out.size hb5)
 have HKs := Aside0.mk hs5
 have HKf := Aside0.mk hf5
 clear hs5 hf5 hb5 zo0 zo1 zo2 zo3 zo4
 go_wp2_with (fail)
 go_ret
 refine ⟨90, _, rfl, named Try.func90 oK rfl, ?_, aD.out⟩
 obtain ⟨f1, f2, f3, f4, f5, f6⟩ := HF.out
 exact places_move W H W H l (fun x y => (W : Int) - 1 - x) (fun x y => y) 70 71 #[] #[] gs gf w5 HF.out f1 f2 f3 f4 (named Try.func70 oK rfl) (named Try.func71 oK rfl) HKs.out HKf.out (fun w' A n c _ => sameSize_calls W H A n c w') (fun w' A n c x y _ hx hy => (fromX_calls W H x y A n c w' (by omega) (by omega) (by omega) (by omega) (by omega) (by omega) (by omega) (by omega)).mono fun _ _ h => h) (fun x y hx hy => by omega)
set_option maxHeartbeats 1000000 in
set_option maxRecDepth 100000 in
theorem move3 (W H : Nat) (l : List S38) (w : World) (hfit : FitsN W H l) : Calls Try.prog 47 #[.agg #[.int .i64 3, .int .i64 0, .int .i64 0, .int .i64 0, .int .i64 0]] w fun e w' => ∃ ff fcap, e = .returned (.func (.func ff) #[] fcap) ∧ Named ff ∧ MoveR ff fcap w' W H l (opGo W H l 3 0 0 0 0) ∧ Below w.heap.size w w' := by
 have hu27 := Try.underlying27
 have HF := Aside0.mk hfit
 clear hfit
 go_enter Try.func47, Try.ntmps47
 go_wp2_with ((with_reducible refine gate_dst (N := 1) rfl ?_); refine box_event rfl (N := 1) rfl (cs := #[.int .i64 3, .int .i64 0, .int .i64 0, .int .i64 0, .int .i64 0]) (t := 27) oS ?_; intro g1 hg_ W1 hk_ hb_; have aA := Aside0.mk hk_; have HBW1 := Aside0.mk (below_then (Below.refl w.heap.size w) (Below.refl w.heap.size w).size hb_); have HGEg1 : Aside0 (w.heap.size ≤ g1) := ⟨(by rw [hg_]; exact (Below.refl w.heap.size w).size)⟩; clear hk_ hb_ hg_; have zo0 := blk_cell aA.out 0; have zo1 := blk_cell aA.out 1; have zo2 := blk_cell aA.out 2; have zo3 := blk_cell aA.out 3; have zo4 := blk_cell aA.out 4; simp only [List.getElem?_toArray, List.getElem?_cons_zero, List.getElem?_cons_succ] at zo0 zo1 zo2 zo3 zo4)
 refine (movePlaces_calls 70 72 #[] #[] _).mono ?_
 rintro e w5 ⟨gs, gf, rfl, hs5, hf5, hb5⟩
 have aD := Aside0.mk (below_then HBW1.out HBW1.out.size hb5)
 have HKs := Aside0.mk hs5
 have HKf := Aside0.mk hf5
 clear hs5 hf5 hb5 zo0 zo1 zo2 zo3 zo4
 go_wp2_with (fail)
 go_ret
 refine ⟨90, _, rfl, named Try.func90 oK rfl, ?_, aD.out⟩
 obtain ⟨f1, f2, f3, f4, f5, f6⟩ := HF.out
 exact places_move W H W H l (fun x y => x) (fun x y => (H : Int) - 1 - y) 70 72 #[] #[] gs gf w5 HF.out f1 f2 f3 f4 (named Try.func70 oK rfl) (named Try.func72 oK rfl) HKs.out HKf.out (fun w' A n c _ => sameSize_calls W H A n c w') (fun w' A n c x y _ hx hy => (fromY_calls W H x y A n c w' (by omega) (by omega) (by omega) (by omega) (by omega) (by omega) (by omega) (by omega)).mono fun _ _ h => h) (fun x y hx hy => by omega)
set_option maxHeartbeats 1000000 in
set_option maxRecDepth 100000 in
theorem move4 (W H : Nat) (l : List S38) (w : World) (hfit : FitsN W H l) : Calls Try.prog 47 #[.agg #[.int .i64 4, .int .i64 0, .int .i64 0, .int .i64 0, .int .i64 0]] w fun e w' => ∃ ff fcap, e = .returned (.func (.func ff) #[] fcap) ∧ Named ff ∧ MoveR ff fcap w' W H l (opGo W H l 4 0 0 0 0) ∧ Below w.heap.size w w' := by
 have hu27 := Try.underlying27
 have HF := Aside0.mk hfit
 clear hfit
 go_enter Try.func47, Try.ntmps47
 go_wp2_with ((with_reducible refine gate_dst (N := 1) rfl ?_); refine box_event rfl (N := 1) rfl (cs := #[.int .i64 4, .int .i64 0, .int .i64 0, .int .i64 0, .int .i64 0]) (t := 27) oS ?_; intro g1 hg_ W1 hk_ hb_; have aA := Aside0.mk hk_; have HBW1 := Aside0.mk (below_then (Below.refl w.heap.size w) (Below.refl w.heap.size w).size hb_); have HGEg1 : Aside0 (w.heap.size ≤ g1) := ⟨(by rw [hg_]; exact (Below.refl w.heap.size w).size)⟩; clear hk_ hb_ hg_; have zo0 := blk_cell aA.out 0; have zo1 := blk_cell aA.out 1; have zo2 := blk_cell aA.out 2; have zo3 := blk_cell aA.out 3; have zo4 := blk_cell aA.out 4; simp only [List.getElem?_toArray, List.getElem?_cons_zero, List.getElem?_cons_succ] at zo0 zo1 zo2 zo3 zo4)
 refine (movePlaces_calls 73 74 #[] #[] _).mono ?_
 rintro e w5 ⟨gs, gf, rfl, hs5, hf5, hb5⟩
 have aD := Aside0.mk (below_then HBW1.out HBW1.out.size hb5)
 have HKs := Aside0.mk hs5
 have HKf := Aside0.mk hf5
 clear hs5 hf5 hb5 zo0 zo1 zo2 zo3 zo4
 go_wp2_with (fail)
 go_ret
 refine ⟨90, _, rfl, named Try.func90 oK rfl, ?_, aD.out⟩
 obtain ⟨f1, f2, f3, f4, f5, f6⟩ := HF.out
 exact places_move W H H W l (fun x y => y) (fun x y => (H : Int) - 1 - x) 73 74 #[] #[] gs gf w5 HF.out f3 f4 f1 f2 (named Try.func73 oK rfl) (named Try.func74 oK rfl) HKs.out HKf.out (fun w' A n c _ => turnedSize_calls W H A n c w') (fun w' A n c x y _ hx hy => (fromT_calls W H x y A n c w' (by omega) (by omega) (by omega) (by omega) (by omega) (by omega) (by omega) (by omega)).mono fun _ _ h => h) (fun x y hx hy => by omega)
set_option maxHeartbeats 1000000 in
set_option maxRecDepth 100000 in
theorem move5 (W H : Nat) (l : List S38) (w : World) (hfit : FitsN W H l) : Calls Try.prog 47 #[.agg #[.int .i64 5, .int .i64 0, .int .i64 0, .int .i64 0, .int .i64 0]] w fun e w' => ∃ ff fcap, e = .returned (.func (.func ff) #[] fcap) ∧ Named ff ∧ MoveR ff fcap w' W H l (opGo W H l 5 0 0 0 0) ∧ Below w.heap.size w w' := by
 have hu27 := Try.underlying27
 have HF := Aside0.mk hfit
 clear hfit
 go_enter Try.func47, Try.ntmps47
 go_wp2_with ((with_reducible refine gate_dst (N := 1) rfl ?_); refine box_event rfl (N := 1) rfl (cs := #[.int .i64 5, .int .i64 0, .int .i64 0, .int .i64 0, .int .i64 0]) (t := 27) oS ?_; intro g1 hg_ W1 hk_ hb_; have aA := Aside0.mk hk_; have HBW1 := Aside0.mk (below_then (Below.refl w.heap.size w) (Below.refl w.heap.size w).size hb_); have HGEg1 : Aside0 (w.heap.size ≤ g1) := ⟨(by rw [hg_]; exact (Below.refl w.heap.size w).size)⟩; clear hk_ hb_ hg_; have zo0 := blk_cell aA.out 0; have zo1 := blk_cell aA.out 1; have zo2 := blk_cell aA.out 2; have zo3 := blk_cell aA.out 3; have zo4 := blk_cell aA.out 4; simp only [List.getElem?_toArray, List.getElem?_cons_zero, List.getElem?_cons_succ] at zo0 zo1 zo2 zo3 zo4)
 refine (moveColours_calls 76 #[] _).mono ?_
 rintro e w5 ⟨gf, rfl, hf5, hb5⟩
 have aD := Aside0.mk (below_then HBW1.out HBW1.out.size hb5)
 have HKf := Aside0.mk hf5
 clear hf5 hb5 zo0 zo1 zo2 zo3 zo4
 go_wp2_with (fail)
 go_ret
 refine ⟨92, _, rfl, named Try.func92 oK rfl, ?_, aD.out⟩
 exact colours_move W H l grayS 76 #[] gf w5 HF.out (named Try.func76 oK rfl) HKf.out (fun w' p _ hp => gray_calls p w' hp)
set_option maxHeartbeats 1000000 in
set_option maxRecDepth 100000 in
theorem move6 (W H : Nat) (l : List S38) (w : World) (hfit : FitsN W H l) : Calls Try.prog 47 #[.agg #[.int .i64 6, .int .i64 0, .int .i64 0, .int .i64 0, .int .i64 0]] w fun e w' => ∃ ff fcap, e = .returned (.func (.func ff) #[] fcap) ∧ Named ff ∧ MoveR ff fcap w' W H l (opGo W H l 6 0 0 0 0) ∧ Below w.heap.size w w' := by
 have hu27 := Try.underlying27
 have HF := Aside0.mk hfit
 clear hfit
 go_enter Try.func47, Try.ntmps47
 go_wp2_with ((with_reducible refine gate_dst (N := 1) rfl ?_); refine box_event rfl (N := 1) rfl (cs := #[.int .i64 6, .int .i64 0, .int .i64 0, .int .i64 0, .int .i64 0]) (t := 27) oS ?_; intro g1 hg_ W1 hk_ hb_; have aA := Aside0.mk hk_; have HBW1 := Aside0.mk (below_then (Below.refl w.heap.size w) (Below.refl w.heap.size w).size hb_); have HGEg1 : Aside0 (w.heap.size ≤ g1) := ⟨(by rw [hg_]; exact (Below.refl w.heap.size w).size)⟩; clear hk_ hb_ hg_; have zo0 := blk_cell aA.out 0; have zo1 := blk_cell aA.out 1; have zo2 := blk_cell aA.out 2; have zo3 := blk_cell aA.out 3; have zo4 := blk_cell aA.out 4; simp only [List.getElem?_toArray, List.getElem?_cons_zero, List.getElem?_cons_succ] at zo0 zo1 zo2 zo3 zo4)
 go_ret
 exact ⟨77, _, rfl, named Try.func77 oK rfl, blur_move W H l _ HF.out, HBW1.out⟩
set_option maxHeartbeats 1000000 in
set_option maxRecDepth 100000 in
theorem move7 (W H : Nat) (l : List S38) (A1 B1 : Int) (w : World) (hfit : FitsN W H l) (ha0 : 1 ≤ A1) (ha1 : A1 ≤ 6) (hb0 : 1 ≤ B1) (hb1 : B1 ≤ 6) : Calls Try.prog 47 #[.agg #[.int .i64 7, .int .i64 A1, .int .i64 B1, .int .i64 0, .int .i64 0]] w fun e w' => ∃ ff fcap, e = .returned (.func (.func ff) #[] fcap) ∧ Named ff ∧ MoveR ff fcap w' W H l (opGo W H l 7 A1 B1 0 0) ∧ Below w.heap.size w w' := by
 have hu27 := Try.underlying27
 have HF := Aside0.mk hfit
 clear hfit
 go_enter Try.func47, Try.ntmps47
 go_wp2_with ((with_reducible refine gate_dst (N := 1) rfl ?_); refine box_event rfl (N := 1) rfl (cs := #[.int .i64 7, .int .i64 A1, .int .i64 B1, .int .i64 0, .int .i64 0]) (t := 27) oS ?_; intro g1 hg_ W1 hk_ hb_; have aA := Aside0.mk hk_; have HBW1 := Aside0.mk (below_then (Below.refl w.heap.size w) (Below.refl w.heap.size w).size hb_); have HGEg1 : Aside0 (w.heap.size ≤ g1) := ⟨(by rw [hg_]; exact (Below.refl w.heap.size w).size)⟩; clear hk_ hb_ hg_; have zo0 := blk_cell aA.out 0; have zo1 := blk_cell aA.out 1; have zo2 := blk_cell aA.out 2; have zo3 := blk_cell aA.out 3; have zo4 := blk_cell aA.out 4; simp only [List.getElem?_toArray, List.getElem?_cons_zero, List.getElem?_cons_succ] at zo0 zo1 zo2 zo3 zo4)
 refine (sizeMove_calls 7 A1 B1 0 0 _).mono ?_
 rintro e w5 ⟨go, gs, gf, rfl, ho5, hs5, hf5, hb5⟩
 have aD := Aside0.mk (below_then HBW1.out HBW1.out.size hb5)
 have HKo := Aside0.mk ho5
 have HKs := Aside0.mk hs5
 have HKf := Aside0.mk hf5
 clear ho5 hs5 hf5 hb5 zo0 zo1 zo2 zo3 zo4
 go_wp2_with (fail)
 go_ret
 refine ⟨90, _, rfl, named Try.func90 oK rfl, ?_, aD.out⟩
 obtain ⟨f1, f2, f3, f4, f5, f6⟩ := HF.out
 obtain ⟨a, rfl⟩ := Int.eq_ofNat_of_zero_le (show 0 ≤ A1 by omega)
 obtain ⟨b, rfl⟩ := Int.eq_ofNat_of_zero_le (show 0 ≤ B1 by omega)
 unfold MoveR opGo
 rw [if_neg oD, if_neg oD, if_neg oD, if_neg oD, if_neg oD, if_neg oD, if_pos rfl, Int.toNat_natCast, Int.toNat_natCast]
 exact places_move W H a b l (fun x y => (2 * x + 1) * (W : Int) / (2 * (a : Int))) (fun x y => (2 * y + 1) * (H : Int) / (2 * (b : Int))) 95 96 _ _ gs gf w5 HF.out (by omega) (by omega) (by omega) (by omega) (named Try.func95 oK rfl) (named Try.func96 oK rfl) HKs.out HKf.out
   (fun w' A n c h => sizeSize_calls W H 7 a b 0 0 A n c go w' (blk_below HKo.out h)) (fun w' A n c x y h hx hy => sizeFrom_calls W H x y 7 a b 0 0 A n c go w' (blk_below HKo.out h) (by omega) (by omega) (by omega) (by omega) (by omega) (by omega) (by omega) (by omega) (by omega) (by omega) (by omega) (by omega))
   (fun x y hx hy => ⟨(size_mul_lt hx (by omega) f1).1, (size_mul_lt hx (by omega) f1).2, (size_mul_lt hy (by omega) f3).1, (size_mul_lt hy (by omega) f3).2⟩)
set_option maxHeartbeats 1000000 in
set_option maxRecDepth 100000 in
theorem move8 (W H : Nat) (l : List S38) (A1 B1 C1 : Int) (w : World) (hfit : FitsN W H l) (ha : PartG A1) (hb : PartG B1) (hc : PartG C1) : Calls Try.prog 47 #[.agg #[.int .i64 8, .int .i64 A1, .int .i64 B1, .int .i64 C1, .int .i64 0]] w fun e w' => ∃ ff fcap, e = .returned (.func (.func ff) #[] fcap) ∧ Named ff ∧ MoveR ff fcap w' W H l (opGo W H l 8 A1 B1 C1 0) ∧ Below w.heap.size w w' := by
 have hu27 := Try.underlying27
 have HF := Aside0.mk hfit
 clear hfit
 go_enter Try.func47, Try.ntmps47
 go_wp2_with ((with_reducible refine gate_dst (N := 1) rfl ?_); refine box_event rfl (N := 1) rfl (cs := #[.int .i64 8, .int .i64 A1, .int .i64 B1, .int .i64 C1, .int .i64 0]) (t := 27) oS ?_; intro g1 hg_ W1 hk_ hb_; have aA := Aside0.mk hk_; have HBW1 := Aside0.mk (below_then (Below.refl w.heap.size w) (Below.refl w.heap.size w).size hb_); have HGEg1 : Aside0 (w.heap.size ≤ g1) := ⟨(by rw [hg_]; exact (Below.refl w.heap.size w).size)⟩; clear hk_ hb_ hg_; have zo0 := blk_cell aA.out 0; have zo1 := blk_cell aA.out 1; have zo2 := blk_cell aA.out 2; have zo3 := blk_cell aA.out 3; have zo4 := blk_cell aA.out 4; simp only [List.getElem?_toArray, List.getElem?_cons_zero, List.getElem?_cons_succ] at zo0 zo1 zo2 zo3 zo4)
 refine (flatMove_calls 8 A1 B1 C1 0 _).mono ?_
 rintro e w5 ⟨go, gf, rfl, ho5, hf5, hb5⟩
 have aD := Aside0.mk (below_then HBW1.out HBW1.out.size hb5)
 have HKo := Aside0.mk ho5
 have HKf := Aside0.mk hf5
 clear ho5 hf5 hb5 zo0 zo1 zo2 zo3 zo4
 go_wp2_with (fail)
 go_ret
 refine ⟨92, _, rfl, named Try.func92 oK rfl, ?_, aD.out⟩
 exact colours_move W H l (flatS A1 B1 C1) 97 _ gf w5 HF.out (named Try.func97 oK rfl) HKf.out (fun w' p h hp => flat_calls p 8 A1 B1 C1 0 go w' hp ha hb hc (blk_below HKo.out h))
set_option maxHeartbeats 1000000 in
set_option maxRecDepth 100000 in
theorem move1 (W H : Nat) (l : List S38) (A1 B1 C1 D1 : Int) (w : World) (hfit : FitsN W H l) (ha0 : 0 ≤ A1) (ha1 : A1 ≤ 5) (hb0 : 0 ≤ B1) (hb1 : B1 ≤ 5) (bC : 1 ≤ C1) (bD : C1 ≤ 6) (hd0 : 1 ≤ D1) (hd1 : D1 ≤ 6) : Calls Try.prog 47 #[.agg #[.int .i64 1, .int .i64 A1, .int .i64 B1, .int .i64 C1, .int .i64 D1]] w fun e w' => ∃ ff fcap, e = .returned (.func (.func ff) #[] fcap) ∧ Named ff ∧ MoveR ff fcap w' W H l (opGo W H l 1 A1 B1 C1 D1) ∧ Below w.heap.size w w' := by
 have hu27 := Try.underlying27
 have HF := Aside0.mk hfit
 clear hfit
 go_enter Try.func47, Try.ntmps47
 go_wp2_with ((with_reducible refine gate_dst (N := 1) rfl ?_); refine box_event rfl (N := 1) rfl (cs := #[.int .i64 1, .int .i64 A1, .int .i64 B1, .int .i64 C1, .int .i64 D1]) (t := 27) oS ?_; intro g1 hg_ W1 hk_ hb_; have aA := Aside0.mk hk_; have HBW1 := Aside0.mk (below_then (Below.refl w.heap.size w) (Below.refl w.heap.size w).size hb_); have HGEg1 : Aside0 (w.heap.size ≤ g1) := ⟨(by rw [hg_]; exact (Below.refl w.heap.size w).size)⟩; clear hk_ hb_ hg_; have zo0 := blk_cell aA.out 0; have zo1 := blk_cell aA.out 1; have zo2 := blk_cell aA.out 2; have zo3 := blk_cell aA.out 3; have zo4 := blk_cell aA.out 4; simp only [List.getElem?_toArray, List.getElem?_cons_zero, List.getElem?_cons_succ] at zo0 zo1 zo2 zo3 zo4)
 refine (cropMove_calls 1 A1 B1 C1 D1 _).mono ?_
 rintro e w5 ⟨go, gp, gs, gf, rfl, ho5, hp5, hs5, hf5, hb5⟩
 have aD := Aside0.mk (below_then HBW1.out HBW1.out.size hb5)
 have HKo := Aside0.mk ho5
 have HKp := Aside0.mk hp5
 have HKs := Aside0.mk hs5
 have HKf := Aside0.mk hf5
 clear ho5 hp5 hs5 hf5 hb5 zo0 zo1 zo2 zo3 zo4
 go_wp2_with (fail)
 go_ret
 refine ⟨89, _, rfl, named Try.func89 oK rfl, ?_, aD.out⟩
 obtain ⟨f1, f2, f3, f4, f5, f6⟩ := HF.out
 unfold MoveR opGo
 rw [if_pos rfl]
 by_cases hno : (W : Int) < A1 + C1 ∨ (H : Int) < B1 + D1
 · rw [if_pos hno]
   exact crop_no W H l 1 A1 B1 C1 D1 go gp _ w5 (by omega) (by omega) (by omega) (by omega) (by omega) (by omega) (by omega) (by omega) HKo.out HKp.out hno
 · rw [if_neg hno]
   obtain ⟨c, rfl⟩ := Int.eq_ofNat_of_zero_le (show 0 ≤ C1 by omega)
   obtain ⟨d, rfl⟩ := Int.eq_ofNat_of_zero_le (show 0 ≤ D1 by omega)
   rw [Int.toNat_natCast, Int.toNat_natCast]
   refine crop_yes W H l 1 A1 B1 c d go gp 90 _ _ w5 (by omega) (by omega) (by omega) (by omega) (by omega) (by omega) (by omega) (by omega) (named Try.func90 oK rfl) HKo.out HKp.out (by omega) (by omega) ?_
   exact places_move W H c d l (fun x y => A1 + x) (fun x y => B1 + y) 87 88 _ _ gs gf w5 HF.out (by omega) (by omega) (by omega) (by omega) (named Try.func87 oK rfl) (named Try.func88 oK rfl) HKs.out HKf.out
    (fun w' A n c' h => cropSize_calls W H 1 A1 B1 c d A n c' go w' (blk_below HKo.out h)) (fun w' A n c' x y h hx hy => cropFrom_calls W H x y 1 A1 B1 c d A n c' go w' (blk_below HKo.out h) (by omega) (by omega) (by omega) (by omega) (by omega) (by omega) (by omega) (by omega))
    (fun x y hx hy => by omega)
theorem moveOf_calls (W H : Nat) (l : List S38) (K A1 B1 C1 D1 : Int) (w : World) (hfit : FitsN W H l) (hop : OpP K A1 B1 C1 D1) : Calls Try.prog 47 #[.agg #[.int .i64 K, .int .i64 A1, .int .i64 B1, .int .i64 C1, .int .i64 D1]] w fun e w' => ∃ ff fcap, e = .returned (.func (.func ff) #[] fcap) ∧ Named ff ∧ MoveR ff fcap w' W H l (opGo W H l K A1 B1 C1 D1) ∧ Below w.heap.size w w' := by
 rcases hop with ⟨rfl, h1, h2, h3, h4, h5, h6, h7, h8⟩ | ⟨h1, h2, rfl, rfl, rfl, rfl⟩ | ⟨rfl, h1, h2, h3, h4, rfl, rfl⟩ | ⟨rfl, h1, h2, h3, h4, h5, h6, rfl⟩
 · exact move1 W H l A1 B1 C1 D1 w hfit h1 h2 h3 h4 h5 h6 h7 h8
 · obtain rfl | rfl | rfl | rfl | rfl : K = 2 ∨ K = 3 ∨ K = 4 ∨ K = 5 ∨ K = 6 := by omega
   ·exact move2 W H l w hfit
   ·exact move3 W H l w hfit
   ·exact move4 W H l w hfit
   ·exact move5 W H l w hfit
   ·exact move6 W H l w hfit
 · exact move7 W H l A1 B1 w hfit h1 h2 h3 h4
 · exact move8 W H l A1 B1 C1 w hfit ⟨h1, h2⟩ ⟨h3, h4⟩ ⟨h5, h6⟩
set_option maxHeartbeats 1000000 in
set_option maxRecDepth 100000 in
theorem opDo_yes (kf : Nat) (W H : Nat) (l : List S38) (K0 A1 B1 C1 D1 : Int) (A : Option Addr) (c : Nat) (w : World) (hC : Kd.C k38 w A l.length l) (hc : l.length ≤ c) (hfit : FitsN W H l) (hop : OpP K0 A1 B1 C1 D1) (h1 : impl_RasOk.f kf W H l = some true) (h2 : impl_OpOk.f kf K0 A1 B1 C1 D1 = some true) :
   Calls Try.prog 19 #[.agg #[.int .i64 (W : Int), .int .i64 (H : Int), .slice A l.length c], .agg #[.int .i64 K0, .int .i64 A1, .int .i64 B1, .int .i64 C1, .int .i64 D1]] w fun e w' => ∃ v, e = .returned (.tuple #[.agg #[.int .i64 (opGo W H l K0 A1 B1 C1 D1).1, .int .i64 (opGo W H l K0 A1 B1 C1 D1).2.1, v], .bool (opGo W H l K0 A1 B1 C1 D1).2.2.2]) ∧ Kd.R k38 38 w' w.heap.size (fun _ => True) v (opGo W H l K0 A1 B1 C1 D1).2.2.1 ∧ Below w.heap.size w w' := by
 have HC := Aside0.mk hC
 have HFIT := Aside0.mk hfit
 have HOP := Aside0.mk hop
 have H1 := Aside0.mk h1
 have H2 := Aside0.mk h2
 have hu25 := Try.underlying25
 have hu27 := Try.underlying27
 clear hC hfit hop h1 h2
 go_enter Try.func19, Try.ntmps19
 go_wp2_with (first | ((with_reducible refine gate_dst (N := 2) rfl ?_); refine box_event rfl (N := 2) rfl (cs := #[.int .i64 (W : Int), .int .i64 (H : Int), .slice A l.length c]) (t := 25) oS ?_; intro g1 hg_ W1 hk_ hb_; have aA := Aside0.mk hk_; have HBW1 := Aside0.mk (below_then (Below.refl w.heap.size w) (Below.refl w.heap.size w).size hb_); have HGEg1 : Aside0 (w.heap.size ≤ g1) := ⟨(by rw [hg_]; exact (Below.refl w.heap.size w).size)⟩; clear hk_ hb_ hg_) | ((with_reducible refine gate_dst (N := 3) rfl ?_); refine box_event rfl (N := 3) rfl (cs := #[.int .i64 K0, .int .i64 A1, .int .i64 B1, .int .i64 C1, .int .i64 D1]) (t := 27) oS ?_; intro g2 hg_ W2 hk_ hb_; have aB := Aside0.mk hk_; have HBW2 := Aside0.mk (below_then HBW1.out HBW1.out.size hb_); have HGEg2 : Aside0 (w.heap.size ≤ g2) := ⟨(by rw [hg_]; exact HBW1.out.size)⟩; replace aA := Aside0.mk (blk_below aA.out hb_); clear hk_ hb_ hg_) | ((with_reducible refine gate_dst (N := 4) rfl ?_); refine box_event rfl (N := 4) rfl (cs := #[.int .i64 0, .int .i64 0, .slice none 0 0]) (t := 25) oS ?_; intro g3 hg_ W3 hk_ hb_; have aE := Aside0.mk hk_; have HBW3 := Aside0.mk (below_then HBW2.out HBW2.out.size hb_); have HGEg3 : Aside0 (w.heap.size ≤ g3) := ⟨(by rw [hg_]; exact HBW2.out.size)⟩; replace aA := Aside0.mk (blk_below aA.out hb_); replace aB := Aside0.mk (blk_below aB.out hb_); clear hk_ hb_ hg_; have zr0 := blk_cell aA.out 0; have zr1 := blk_cell aA.out 1; have zr2 := blk_cell aA.out 2; simp only [List.getElem?_toArray, List.getElem?_cons_zero, List.getElem?_cons_succ] at zr0 zr1 zr2))
 refine (impl_RasOk.calls kf W H A c l true _ (Kd.C_below HC.out HBW3.out) hc H1.out).mono ?_
 rintro e w4 ⟨rfl, hb4⟩
 clear zr0 zr1 zr2
 have aP := Aside0.mk (below_then HBW3.out HBW3.out.size hb4)
 have HK14 := Aside0.mk (blk_below aA.out hb4)
 have HK24 := Aside0.mk (blk_below aB.out hb4)
 have HK34 := Aside0.mk (blk_below aE.out hb4)
 clear hb4
 have zo0 := blk_cell HK24.out 0
 have zo1 := blk_cell HK24.out 1
 have zo2 := blk_cell HK24.out 2
 have zo3 := blk_cell HK24.out 3
 have zo4 := blk_cell HK24.out 4
 simp only [List.getElem?_toArray, List.getElem?_cons_zero, List.getElem?_cons_succ] at zo0 zo1 zo2 zo3 zo4
 go_wp2_with (fail)
 refine (impl_OpOk.calls kf K0 A1 B1 C1 D1 true _ H2.out).mono ?_
 rintro e w5 ⟨rfl, hb5⟩
 clear zo0 zo1 zo2 zo3 zo4
 have aD := Aside0.mk (below_then aP.out aP.out.size hb5)
 have HK15 := Aside0.mk (blk_below HK14.out hb5)
 have HK25 := Aside0.mk (blk_below HK24.out hb5)
 have HK35 := Aside0.mk (blk_below HK34.out hb5)
 clear hb5
 have zo0 := blk_cell HK25.out 0
 have zo1 := blk_cell HK25.out 1
 have zo2 := blk_cell HK25.out 2
 have zo3 := blk_cell HK25.out 3
 have zo4 := blk_cell HK25.out 4
 simp only [List.getElem?_toArray, List.getElem?_cons_zero, List.getElem?_cons_succ] at zo0 zo1 zo2 zo3 zo4
 have zr0 := blk_cell HK15.out 0
 have zr1 := blk_cell HK15.out 1
 have zr2 := blk_cell HK15.out 2
 simp only [List.getElem?_toArray, List.getElem?_cons_zero, List.getElem?_cons_succ] at zr0 zr1 zr2
 go_wp2_with (fail)
 refine start_ (n := 8) (S := fun w'' => w''.cell? ⟨g2, 0, none⟩ = some (.int .i64 K0) ∧ w''.cell? ⟨g2, 1, none⟩ = some (.int .i64 A1) ∧ w''.cell? ⟨g2, 2, none⟩ = some (.int .i64 B1) ∧ w''.cell? ⟨g2, 3, none⟩ = some (.int .i64 C1) ∧ w''.cell? ⟨g2, 4, none⟩ = some (.int .i64 D1) ∧ w''.cell? ⟨g1, 0, none⟩ = some (.int .i64 (W : Int)) ∧ w''.cell? ⟨g1, 1, none⟩ = some (.int .i64 (H : Int)) ∧ w''.cell? ⟨g1, 2, none⟩ = some (.slice A l.length c)) (ds := [3, 6]) #[false, false, false, false, false, false, false, false] oK rfl rfl ⟨zo0, zo1, zo2, zo3, zo4, zr0, zr1, zr2⟩ (fun hHeld => ?_)
 refine take_ (i := 0) (N := (some 15)) (v := ?_) (a' := ?_) #[true, false, false, false, false, false, false, false] rfl rfl oK (fun _ _ _ h => h) (Or.inl ⟨by rfl, ?_⟩) hHeld ?_ ?_
 rotate_left
 · intro w' s0
   go_simp
   with_reducible rfl
 rotate_left
 · simp only [Act.put, List.setIfInBounds_toArray, List.set_cons_zero, List.set_cons_succ, i64_w, i32_w]
   rfl
 refine take_ (i := 2) (N := (some 17)) (v := ?_) (a' := ?_) #[true, false, true, false, false, false, false, false] rfl rfl oK (fun _ _ _ h => h) (Or.inl ⟨by rfl, ?_⟩) hHeld ?_ ?_
 rotate_left
 · intro w' s0
   go_simp
   with_reducible rfl
 rotate_left
 · simp only [Act.put, List.setIfInBounds_toArray, List.set_cons_zero, List.set_cons_succ, i64_w, i32_w]
   rfl
 refine one_ (i := 1) (N := (some 16)) #[true, true, true, false, false, false, false, false] rfl rfl oK oD (fun K hK => ?_)
 refine goes_ Try.func47 oK rfl #[.agg #[.int .i64 K0, .int .i64 A1, .int .i64 B1, .int .i64 C1, .int .i64 D1]] (by rfl) rfl rfl (by (try simp only [List.map_toArray, List.map_cons, List.map_nil]); rfl) ?_
 refine (moveOf_calls W H l K0 A1 B1 C1 D1 _ HFIT.out HOP.out).mono ?_
 rintro e w6 ⟨ff, fcap, rfl, hnm, hmv, hb⟩
 have aJ := Aside0.mk (below_then (below_drew aD.out) (below_drew aD.out).size hb)
 have HK16 := Aside0.mk (blk_below (blk_drew HK15.out) hb)
 have HK26 := Aside0.mk (blk_below (blk_drew HK25.out) hb)
 have HK36 := Aside0.mk (blk_below (blk_drew HK35.out) hb)
 have HMV := Aside0.mk hmv
 have hent := hnm.enters
 clear hb hmv hnm
 have vo0 := blk_cell HK26.out 0
 have vo1 := blk_cell HK26.out 1
 have vo2 := blk_cell HK26.out 2
 have vo3 := blk_cell HK26.out 3
 have vo4 := blk_cell HK26.out 4
 simp only [List.getElem?_toArray, List.getElem?_cons_zero, List.getElem?_cons_succ] at vo0 vo1 vo2 vo3 vo4
 have vr0 := blk_cell HK16.out 0
 have vr1 := blk_cell HK16.out 1
 have vr2 := blk_cell HK16.out 2
 simp only [List.getElem?_toArray, List.getElem?_cons_zero, List.getElem?_cons_succ] at vr0 vr1 vr2
 refine ⟨_, rfl, ?_⟩
 refine hK.out _ _ ⟨vo0, vo1, vo2, vo3, vo4, vr0, vr1, vr2⟩ (fun hHeld2 => ?_)
 clear hK K
 try simp only [Act.put, List.setIfInBounds_toArray, List.set_cons_zero, List.set_cons_succ]
 refine last_ (i := 3) (N := (some 18)) #[true, true, true, true, false, false, false, false] rfl rfl oK oD (fun K hK => ?_)
 refine call_ ff (#[.agg #[.int .i64 (W : Int), .int .i64 (H : Int), .slice A l.length c]] ++ fcap) (by rfl) rfl (by unfold execOp; simp [resolve, Deferred.ofValue, invoke, Act.eval, hent]) ?_
 refine (HMV.out _ A c (Below.refl _ _) (Kd.C_below HC.out aJ.out) hc).mono ?_
 rintro e w7 ⟨v, rfl, hr7, hb7⟩
 have bF := Aside0.mk (below_then aJ.out aJ.out.size hb7)
 have HK37 := Aside0.mk (blk_below HK36.out hb7)
 have bB := Aside0.mk (R_beyond (w := w) hr7 (blk_lt HK36.out) aJ.out.size)
 clear hr7 hb7
 obtain ⟨A7, c7, rfl⟩ := Kd.R_slice bB.out
 have y0 := blk_cell HK37.out 0
 have y1 := blk_cell HK37.out 1
 have y2 := blk_cell HK37.out 2
 simp only [List.getElem?_toArray, List.getElem?_cons_zero, List.getElem?_cons_succ] at y0 y1 y2
 have yf0 := blk_frozen HK37.out 0
 have yf1 := blk_frozen HK37.out 1
 have yf2 := blk_frozen HK37.out 2
 refine ⟨_, rfl, ?_⟩
 refine hK.out _ _ ?_
 clear hK K
 try simp only [Act.put, List.setIfInBounds_toArray, List.set_cons_zero, List.set_cons_succ]
 refine pure_ (i := 4) (N := (some 19)) (v := ?_) (a' := ?_) #[true, true, true, true, true, false, false, false] rfl rfl oK (fun _ _ _ h => h) (Or.inl ⟨by rfl, ?_⟩) ?_ ?_
 rotate_left
 · intro w'
   go_simp
   with_reducible rfl
 rotate_left
 · simp only [Act.put, List.setIfInBounds_toArray, List.set_cons_zero, List.set_cons_succ, i64_w, i32_w]
   rfl
 refine pure_ (i := 5) (N := (some 20)) (v := ?_) (a' := ?_) #[true, true, true, true, true, true, false, false] rfl rfl oK (fun _ _ _ h => h) (Or.inl ⟨by rfl, ?_⟩) ?_ ?_
 rotate_left
 · intro w'
   go_simp
   with_reducible rfl
 rotate_left
 · simp only [Act.put, List.setIfInBounds_toArray, List.set_cons_zero, List.set_cons_succ, i64_w, i32_w]
   rfl
 refine last_ (i := 6) (N := none) #[true, true, true, true, true, true, true, false] rfl rfl oK oD (fun K hK => ?_)
 refine skip_ (w1 := ?_) (by rfl) rfl ?_ ?_
 rotate_left
 · go_simp
   with_reducible rfl
 refine hK.out _ _ ?_
 clear hK K
 try simp only [Act.put, List.setIfInBounds_toArray, List.set_cons_zero, List.set_cons_succ]
 refine pure_ (i := 7) (N := (some 5)) (v := ?_) (a' := ?_) #[true, true, true, true, true, true, true, true] rfl rfl oK (fun _ _ _ h => h) (Or.inl ⟨by rfl, ?_⟩) ?_ ?_
 rotate_left
 · intro w'
   go_simp
   with_reducible rfl
 rotate_left
 · simp only [Act.put, List.setIfInBounds_toArray, List.set_cons_zero, List.set_cons_succ, i64_w, i32_w]
   rfl
 refine done_ oK ?_
 go_wp2
 refine bodyPost_ret (results_ct rfl _ _ g3 25 #[.int .i64 (opGo W H l K0 A1 B1 C1 D1).1, .int .i64 (opGo W H l K0 A1 B1 C1 D1).2.1, .slice A7 (opGo W H l K0 A1 B1 C1 D1).2.2.1.length c7] (0, 0) _ rfl (blk_put (blk_put (blk_put HK37.out 0 _ rfl) 1 _ rfl) 2 _ rfl) Try.underlying25 rfl oK) rfl ?_
 refine ⟨_, rfl, ?_, below_set (below_set (below_set bF.out HGEg3.out) HGEg3.out) HGEg3.out⟩
 exact Kd.R_mono (Kd.R_far (p := ⟨g3, 2, none⟩) (Kd.R_far (p := ⟨g3, 1, none⟩) (Kd.R_far (p := ⟨g3, 0, none⟩) bB.out (fun k hk => hk.2) _) (fun k hk => hk.2) _) (fun k hk => hk.2) _) (fun _ _ => trivial)
set_option maxHeartbeats 1000000 in
set_option maxRecDepth 100000 in
theorem opDo_bad (kf : Nat) (W H : Int) (l : List S38) (K0 A1 B1 C1 D1 : Int) (A : Option Addr) (c : Nat) (w : World) (hC : Kd.C k38 w A l.length l) (hc : l.length ≤ c) (h1 : impl_RasOk.f kf W H l = some false) :
   Calls Try.prog 19 #[.agg #[.int .i64 W, .int .i64 H, .slice A l.length c], .agg #[.int .i64 K0, .int .i64 A1, .int .i64 B1, .int .i64 C1, .int .i64 D1]] w fun e w' => ∃ v, e = .returned (.tuple #[.agg #[.int .i64 0, .int .i64 0, v], .bool false]) ∧ Kd.R k38 38 w' w.heap.size (fun _ => True) v [] ∧ Below w.heap.size w w' := by
 have HC := Aside0.mk hC
 have hu25 := Try.underlying25
 have hu27 := Try.underlying27
 clear hC
 have H1 := Aside0.mk h1
 clear h1
 go_enter Try.func19, Try.ntmps19
 go_wp2_with (first | ((with_reducible refine gate_dst (N := 2) rfl ?_); refine box_event rfl (N := 2) rfl (cs := #[.int .i64 W, .int .i64 H, .slice A l.length c]) (t := 25) oS ?_; intro g1 hg_ W1 hk_ hb_; have aA := Aside0.mk hk_; have HBW1 := Aside0.mk (below_then (Below.refl w.heap.size w) (Below.refl w.heap.size w).size hb_); have HGEg1 : Aside0 (w.heap.size ≤ g1) := ⟨(by rw [hg_]; exact (Below.refl w.heap.size w).size)⟩; clear hk_ hb_ hg_) | ((with_reducible refine gate_dst (N := 3) rfl ?_); refine box_event rfl (N := 3) rfl (cs := #[.int .i64 K0, .int .i64 A1, .int .i64 B1, .int .i64 C1, .int .i64 D1]) (t := 27) oS ?_; intro g2 hg_ W2 hk_ hb_; have aB := Aside0.mk hk_; have HBW2 := Aside0.mk (below_then HBW1.out HBW1.out.size hb_); have HGEg2 : Aside0 (w.heap.size ≤ g2) := ⟨(by rw [hg_]; exact HBW1.out.size)⟩; replace aA := Aside0.mk (blk_below aA.out hb_); clear hk_ hb_ hg_) | ((with_reducible refine gate_dst (N := 4) rfl ?_); refine box_event rfl (N := 4) rfl (cs := #[.int .i64 0, .int .i64 0, .slice none 0 0]) (t := 25) oS ?_; intro g3 hg_ W3 hk_ hb_; have aE := Aside0.mk hk_; have HBW3 := Aside0.mk (below_then HBW2.out HBW2.out.size hb_); have HGEg3 : Aside0 (w.heap.size ≤ g3) := ⟨(by rw [hg_]; exact HBW2.out.size)⟩; replace aA := Aside0.mk (blk_below aA.out hb_); replace aB := Aside0.mk (blk_below aB.out hb_); clear hk_ hb_ hg_; have zr0 := blk_cell aA.out 0; have zr1 := blk_cell aA.out 1; have zr2 := blk_cell aA.out 2; simp only [List.getElem?_toArray, List.getElem?_cons_zero, List.getElem?_cons_succ] at zr0 zr1 zr2))
 refine (impl_RasOk.calls kf W H A c l false _ (Kd.C_below HC.out HBW3.out) hc H1.out).mono ?_
 rintro e w5 ⟨rfl, hb4⟩
 clear zr0 zr1 zr2
 have aD := Aside0.mk (below_then HBW3.out HBW3.out.size hb4)
 have HK15 := Aside0.mk (blk_below aA.out hb4)
 have HK25 := Aside0.mk (blk_below aB.out hb4)
 have HK35 := Aside0.mk (blk_below aE.out hb4)
 clear hb4
 have y0 := blk_cell HK35.out 0
 have y1 := blk_cell HK35.out 1
 have y2 := blk_cell HK35.out 2
 simp only [List.getElem?_toArray, List.getElem?_cons_zero, List.getElem?_cons_succ] at y0 y1 y2
 have yf0 := blk_frozen HK35.out 0
 have yf1 := blk_frozen HK35.out 1
 have yf2 := blk_frozen HK35.out 2
 go_wp2_with (fail)
 refine bodyPost_ret (results_ct rfl _ _ g3 25 #[.int .i64 0, .int .i64 0, .slice none 0 0] (0, 0) _ rfl (blk_put (blk_put (blk_put HK35.out 0 _ rfl) 1 _ rfl) 2 _ rfl) Try.underlying25 rfl oK) rfl ?_
 exact ⟨_, rfl, Kd.R_nil _ _ _ _ _, below_set (below_set (below_set aD.out HGEg3.out) HGEg3.out) HGEg3.out⟩
set_option maxHeartbeats 1000000 in
set_option maxRecDepth 100000 in
theorem opDo_no (kf : Nat) (W H : Int) (l : List S38) (K0 A1 B1 C1 D1 : Int) (A : Option Addr) (c : Nat) (w : World) (hC : Kd.C k38 w A l.length l) (hc : l.length ≤ c) (h1 : impl_RasOk.f kf W H l = some true) (h2 : impl_OpOk.f kf K0 A1 B1 C1 D1 = some false) :
   Calls Try.prog 19 #[.agg #[.int .i64 W, .int .i64 H, .slice A l.length c], .agg #[.int .i64 K0, .int .i64 A1, .int .i64 B1, .int .i64 C1, .int .i64 D1]] w fun e w' => ∃ v, e = .returned (.tuple #[.agg #[.int .i64 0, .int .i64 0, v], .bool false]) ∧ Kd.R k38 38 w' w.heap.size (fun _ => True) v [] ∧ Below w.heap.size w w' := by
 have HC := Aside0.mk hC
 have hu25 := Try.underlying25
 have hu27 := Try.underlying27
 clear hC
 have H1 := Aside0.mk h1
 have H2 := Aside0.mk h2
 clear h1 h2
 go_enter Try.func19, Try.ntmps19
 go_wp2_with (first | ((with_reducible refine gate_dst (N := 2) rfl ?_); refine box_event rfl (N := 2) rfl (cs := #[.int .i64 W, .int .i64 H, .slice A l.length c]) (t := 25) oS ?_; intro g1 hg_ W1 hk_ hb_; have aA := Aside0.mk hk_; have HBW1 := Aside0.mk (below_then (Below.refl w.heap.size w) (Below.refl w.heap.size w).size hb_); have HGEg1 : Aside0 (w.heap.size ≤ g1) := ⟨(by rw [hg_]; exact (Below.refl w.heap.size w).size)⟩; clear hk_ hb_ hg_) | ((with_reducible refine gate_dst (N := 3) rfl ?_); refine box_event rfl (N := 3) rfl (cs := #[.int .i64 K0, .int .i64 A1, .int .i64 B1, .int .i64 C1, .int .i64 D1]) (t := 27) oS ?_; intro g2 hg_ W2 hk_ hb_; have aB := Aside0.mk hk_; have HBW2 := Aside0.mk (below_then HBW1.out HBW1.out.size hb_); have HGEg2 : Aside0 (w.heap.size ≤ g2) := ⟨(by rw [hg_]; exact HBW1.out.size)⟩; replace aA := Aside0.mk (blk_below aA.out hb_); clear hk_ hb_ hg_) | ((with_reducible refine gate_dst (N := 4) rfl ?_); refine box_event rfl (N := 4) rfl (cs := #[.int .i64 0, .int .i64 0, .slice none 0 0]) (t := 25) oS ?_; intro g3 hg_ W3 hk_ hb_; have aE := Aside0.mk hk_; have HBW3 := Aside0.mk (below_then HBW2.out HBW2.out.size hb_); have HGEg3 : Aside0 (w.heap.size ≤ g3) := ⟨(by rw [hg_]; exact HBW2.out.size)⟩; replace aA := Aside0.mk (blk_below aA.out hb_); replace aB := Aside0.mk (blk_below aB.out hb_); clear hk_ hb_ hg_; have zr0 := blk_cell aA.out 0; have zr1 := blk_cell aA.out 1; have zr2 := blk_cell aA.out 2; simp only [List.getElem?_toArray, List.getElem?_cons_zero, List.getElem?_cons_succ] at zr0 zr1 zr2))
 refine (impl_RasOk.calls kf W H A c l true _ (Kd.C_below HC.out HBW3.out) hc H1.out).mono ?_
 rintro e w4 ⟨rfl, hb4⟩
 clear zr0 zr1 zr2
 have aP := Aside0.mk (below_then HBW3.out HBW3.out.size hb4)
 have HK14 := Aside0.mk (blk_below aA.out hb4)
 have HK24 := Aside0.mk (blk_below aB.out hb4)
 have HK34 := Aside0.mk (blk_below aE.out hb4)
 clear hb4
 have zo0 := blk_cell HK24.out 0
 have zo1 := blk_cell HK24.out 1
 have zo2 := blk_cell HK24.out 2
 have zo3 := blk_cell HK24.out 3
 have zo4 := blk_cell HK24.out 4
 simp only [List.getElem?_toArray, List.getElem?_cons_zero, List.getElem?_cons_succ] at zo0 zo1 zo2 zo3 zo4
 go_wp2_with (fail)
 refine (impl_OpOk.calls kf K0 A1 B1 C1 D1 false _ H2.out).mono ?_
 rintro e w5 ⟨rfl, hb5⟩
 clear zo0 zo1 zo2 zo3 zo4
 have aD := Aside0.mk (below_then aP.out aP.out.size hb5)
 have HK35 := Aside0.mk (blk_below HK34.out hb5)
 clear hb5
 have y0 := blk_cell HK35.out 0
 have y1 := blk_cell HK35.out 1
 have y2 := blk_cell HK35.out 2
 simp only [List.getElem?_toArray, List.getElem?_cons_zero, List.getElem?_cons_succ] at y0 y1 y2
 have yf0 := blk_frozen HK35.out 0
 have yf1 := blk_frozen HK35.out 1
 have yf2 := blk_frozen HK35.out 2
 go_wp2_with (fail)
 refine bodyPost_ret (results_ct rfl _ _ g3 25 #[.int .i64 0, .int .i64 0, .slice none 0 0] (0, 0) _ rfl (blk_put (blk_put (blk_put HK35.out 0 _ rfl) 1 _ rfl) 2 _ rfl) Try.underlying25 rfl oK) rfl ?_
 exact ⟨_, rfl, Kd.R_nil _ _ _ _ _, below_set (below_set (below_set aD.out HGEg3.out) HGEg3.out) HGEg3.out⟩
instance (W H : Nat) (l : List S38) : Decidable (FitsN W H l) := by unfold FitsN PixG PartG; infer_instance
def impl_OpDo.f (k : Nat) (a0_0 a0_1 : Int) (l0_2 : List S38) (a1_0 a1_1 a1_2 a1_3 a1_4 : Int) : Option (Int × Int × List S38 × Bool) :=
 (impl_RasOk.f k a0_0 a0_1 l0_2).bind fun t => if t = true then (impl_OpOk.f k a1_0 a1_1 a1_2 a1_3 a1_4).bind fun u => (if u = true then (if 0 ≤ a0_0 ∧ 0 ≤ a0_1 ∧ FitsN a0_0.toNat a0_1.toNat l0_2 ∧ OpP a1_0 a1_1 a1_2 a1_3 a1_4 then some (opGo a0_0.toNat a0_1.toNat l0_2 a1_0 a1_1 a1_2 a1_3 a1_4) else none) else some (0, 0, [], false)) else some (0, 0, [], false)
theorem impl_OpDo.mono : ∀ a0 a1 a2 a3 a4 a5 a6 a7 k, LeO (impl_OpDo.f k a0 a1 a2 a3 a4 a5 a6 a7) (impl_OpDo.f (k + 1) a0 a1 a2 a3 a4 a5 a6 a7) := by
 intro a0 a1 a2 a3 a4 a5 a6 a7 k
 unfold impl_OpDo.f
 exact LeO.bind (impl_RasOk.mono _ _ _ _) (fun _ => LeO.ite (LeO.bind (impl_OpOk.mono _ _ _ _ _ _) (fun _ => LeO.refl _)) (LeO.refl _))
theorem impl_OpDo.calls (k : Nat) (a0_0 : Int) (a0_1 : Int) (aL : Option Addr) (aN : Nat) (l0_2 : List (S38)) (a1_0 : Int) (a1_1 : Int) (a1_2 : Int) (a1_3 : Int) (a1_4 : Int) (r1 : Int) (r2 : Int) (r3 : List (S38)) (r4 : Bool) (w : World) (hr0_2 : Kd.C k38 w aL l0_2.length l0_2) (aO : l0_2.length ≤ aN) (h : impl_OpDo.f k a0_0 a0_1 l0_2 a1_0 a1_1 a1_2 a1_3 a1_4 = some (r1, r2, r3, r4)) :
   Calls Try.prog 19 #[.agg #[.int .i64 a0_0, .int .i64 a0_1, .slice aL l0_2.length aN], .agg #[.int .i64 a1_0, .int .i64 a1_1, .int .i64 a1_2, .int .i64 a1_3, .int .i64 a1_4]] w fun e w' => ∃ bE : Value, e = .returned (.tuple #[.agg #[.int .i64 r1, .int .i64 r2, bE], .bool r4]) ∧ Kd.R k38 38 w' w.heap.size (fun _ => True) bE r3 ∧ Below w.heap.size w w' := by
 unfold impl_OpDo.f at h
 obtain ⟨t, ht, h⟩ := Option.bind_eq_some_iff.mp h
 cases t with
 | false =>
   rw [if_neg oD] at h
   simp only [Option.some.injEq, Prod.mk.injEq] at h
   obtain ⟨rfl, rfl, rfl, rfl⟩ := h
   exact opDo_bad k a0_0 a0_1 l0_2 a1_0 a1_1 a1_2 a1_3 a1_4 aL aN w hr0_2 aO ht
 | true =>
   rw [if_pos rfl] at h
   obtain ⟨u, hu, h⟩ := Option.bind_eq_some_iff.mp h
   cases u with
   | false =>
    rw [if_neg oD] at h
    simp only [Option.some.injEq, Prod.mk.injEq] at h
    obtain ⟨rfl, rfl, rfl, rfl⟩ := h
    exact opDo_no k a0_0 a0_1 l0_2 a1_0 a1_1 a1_2 a1_3 a1_4 aL aN w hr0_2 aO ht hu
   | true =>
    rw [if_pos rfl] at h
    split at h
    case isFalse => cases h
    rename_i hh
    obtain ⟨h0, h1, h2, h3⟩ := hh
    obtain ⟨W, rfl⟩ := Int.eq_ofNat_of_zero_le h0
    obtain ⟨H, rfl⟩ := Int.eq_ofNat_of_zero_le h1
    rw [Int.toNat_natCast, Int.toNat_natCast] at h2 h
    have hgo := Option.some.inj h
    have e := opDo_yes k W H l0_2 a1_0 a1_1 a1_2 a1_3 a1_4 aL aN w hr0_2 aO h2 h3 ht hu
    rw [hgo] at e
    exact e

end Go.Proofs.Ythnmeogafklhnaa.X
