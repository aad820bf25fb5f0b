/- What functions of the program come to, each with its proof. No condition but what each theorem states. -/
import Derived.Test.YthnmeogafklhnaaX0
import Derived.Test.YthnmeogafklhnaaX15
import Derived.Test.YthnmeogafklhnaaX50
import Derived.Test.YthnmeogafklhnaaX81
namespace Go.Proofs.Ythnmeogafklhnaa.X
open Go.RowKit Go.Proofs.YthnmeogafklhnaaW.PrintWords Go.Proofs.YthnmeogafklhnaaW.PrintLast Go.Proofs.YthnmeogafklhnaaW.PrintMore Go.Proofs.Ythnmeogafklhnaa.Hyb
attribute [local go_sem] max2_int min2_int max_two min_two max_three min_three max_four min_four
set_option linter.unusedVariables false
set_option linter.unusedSimpArgs false

/-! ### impl_RasBytes: function 41 -/
/-- The four bytes of a colour. -/
def rb_quad (p : S38) : List Int := [p.f0 % 256, p.f1 % 256, p.f2 % 256, p.f3 % 256]
/-- A picture's bytes up to so many colours. -/
def rb_bs (W H : Int) (l : List S38) (n : Nat) : List Int := [W % 256, H % 256] ++ (l.take n).flatMap rb_quad
theorem rb_zero (W H : Int) (l : List S38) : rb_bs W H l 0 = [W % 256, H % 256] := by simp [rb_bs]
theorem rb_succ (W H : Int) (l : List S38) (n : Nat) (h : n < l.length) : rb_bs W H l (n + 1) = rb_bs W H l n ++ rb_quad l[n] := by
 unfold rb_bs
 rw [← List.take_append_getElem h, List.flatMap_append, List.append_assoc]
 simp
theorem rb_len (W H : Int) (l : List S38) : ∀ n : Nat, n ≤ l.length → (rb_bs W H l n).length = 2 + 4 * n
 | 0, _ => by simp [rb_bs]
 | n + 1, h => by
  rw [rb_succ W H l n h, List.length_append, rb_len W H l n (by omega)]
  simp [rb_quad]; omega
theorem rb_at {P : Program} {f : Nat} {args : Array Value} {W : World} {Q : Ending → World → Prop} (h : ∀ V, V = W → Calls P f args V Q) : Calls P f args W Q := h W rfl
set_option maxHeartbeats 4000000 in
set_option maxRecDepth 100000 in
theorem rb_yes (kf W H : Nat) (l : List S38) (A : Option Addr) (c : Nat) (w : World) (hC : Kd.C k38 w A l.length l) (hc : l.length ≤ c) (hw1 : 1 ≤ W) (hw6 : W ≤ 6) (hh1 : 1 ≤ H) (hh6 : H ≤ 6) (hl : l.length = W * H) (ho : impl_RasOk.f kf W H l = some true) :
  Calls Try.prog 41 #[.agg #[.int .i64 (W : Int), .int .i64 (H : Int), .slice A l.length c]] w fun e w' => ∃ v, e = .returned v ∧ Kd.R (Kd.int .u8) 5 w' w.heap.size (fun _ => True) v (rb_bs W H l l.length) ∧ Below w.heap.size w w' := by
 have hm : W * H ≤ 6 * 6 := Nat.mul_le_mul hw6 hh6
 have hm1 : 1 * 1 ≤ W * H := Nat.mul_le_mul hw1 hh1
 have hlen : l.length ≤ 36 := by omega
 have e1 : IntKind.i64.wrap (4 * (l.length : Int)) = 4 * (l.length : Int) := by rw [i64_w]; unfold wrap64; omega
 have e2 : IntKind.i64.wrap (2 + 4 * (l.length : Int)) = 2 + 4 * (l.length : Int) := by rw [i64_w]; unfold wrap64; omega
 obtain ⟨ad, rfl, _⟩ := at_T38 hC 0 (by omega) (by omega)
 have HZ : Aside0 (rb_bs W H l 0 = [(W : Int), (H : Int)]) := ⟨(by rw [rb_zero, show (W : Int) % 256 = (W : Int) by omega, show (H : Int) % 256 = (H : Int) by omega])⟩
 have HC := Aside0.mk hC
 have HL := Aside0.mk hl
 have HO := Aside0.mk ho
 clear hC hl ho hm hm1
 have hu25 := Try.underlying25
 have hu38 := Try.underlying38
 go_enter Try.func41, Try.ntmps41
 go_wp2_with ((with_reducible refine gate_dst (N := 1) rfl ?_); refine box_event rfl (N := 1) rfl (cs := #[.int .i64 (W : Int), .int .i64 (H : Int), .slice (some ad) l.length c]) (t := 25) oS ?_; intro g1 hg_ W1 hk_ hb_; have HK1 := Aside0.mk hk_; have aD := Aside0.mk (below_then (Below.refl w.heap.size w) (Below.refl w.heap.size w).size hb_); have HG1 : Aside0 (w.heap.size ≤ g1) := ⟨(by rw [hg_]; exact Nat.le_refl _)⟩; clear hk_ hb_ hg_; have zr0 := blk_cell HK1.out 0; have zr1 := blk_cell HK1.out 1; have zr2 := blk_cell HK1.out 2; simp only [List.getElem?_toArray, List.getElem?_cons_zero, List.getElem?_cons_succ] at zr0 zr1 zr2)
 refine (impl_RasOk.calls kf W H (some ad) c l true _ (Kd.C_below HC.out aD.out) hc HO.out).mono ?_
 rintro e w4 ⟨rfl, hb4⟩
 clear zr0 zr1 zr2
 have aF := Aside0.mk (below_then aD.out aD.out.size hb4)
 have HK4 := Aside0.mk (blk_below HK1.out hb4)
 clear hb4 HK1 aD
 have zr0 := blk_cell HK4.out 0
 have zr1 := blk_cell HK4.out 1
 have zr2 := blk_cell HK4.out 2
 simp only [List.getElem?_toArray, List.getElem?_cons_zero, List.getElem?_cons_succ] at zr0 zr1 zr2
 go_wp2_with (first
  | ((with_reducible refine gate_dst (N := 15) rfl ?_); refine R_makecap (Kd.int .u8) w.heap.size 5 rfl (N := 15) rfl 22 _ _ rfl (2 + 4 * (l.length : Int)) rfl rfl Try.underlying22 (.int .u8 0) 1 info5 rfl (by omega) (ok := fun k => k ≠ g1) (Ne.symm (Nat.ne_of_lt (blk_lt HK4.out))) (by omega) (by omega) aF.out aF.out.size ?_; intro v3 w5 ho hb hg hn; have aM := Aside0.mk ho; have aK := Aside0.mk hb; have HK5 := Aside0.mk (blk_grown HK4.out hg (by simp)); clear ho hb hg hn zr0 zr1 zr2; have zr0 := blk_cell HK5.out 0; have zr1 := blk_cell HK5.out 1; have zr2 := blk_cell HK5.out 2; simp only [List.getElem?_toArray, List.getElem?_cons_zero, List.getElem?_cons_succ] at zr0 zr1 zr2)
  | ((with_reducible refine gate_dst (N := 23) rfl ?_); refine Kd.R_lit (Kd.int .u8) _ 5 rfl (N := 23) rfl (xs := [(W : Int), (H : Int)]) (inner := [.int .u8 (W : Int), .int .u8 (H : Int)]) (ok := fun _ => True) (okp := fun _ => True) oS (Reps.one (show Kd.M (Kd.int .u8) _ _ _ (W : Int) [.int .u8 (W : Int)] from rfl) (Reps.one (show Kd.M (Kd.int .u8) _ _ _ (H : Int) [.int .u8 (H : Int)] from rfl) (Reps.none _ _))) (fun _ hk => hk) trivial (Below.refl _ _) (Nat.le_refl _) (by simp) ?_; intro aU w6 ho hb hg hn; obtain ⟨bA, bB, rfl⟩ := Kd.R_slice ho; have aI := Aside0.mk (Kd.R_elder' aM.out (Kd.R_base ho) hb); have HT6 := Aside0.mk ho; have HK6 := Aside0.mk (blk_below HK5.out hb); have aG := Aside0.mk (below_then aK.out aK.out.size hb); clear ho hb hg hn)
  | ((with_reducible refine gate_builtin (b := .append) (xs := #[.tmp 16, .tmp 23]) rfl ?_); at_builtin; refine Kd.R_append_rows (Kd.int .u8) (w0 := w) w.heap.size rfl (.tmp 16) (.tmp 23) 22 5 (.int .u8 0) 1 rfl Try.underlying22 info5 rfl oD (by omega) v3 [] [(W : Int), (H : Int)] _ _ _ (fun k_ => k_ ≠ g1 ∧ some k_ ≠ (.slice bA 2 bB : Value).ownBlock) (fun _ => False) rfl rfl aI.out (Kd.R_reads' HT6.out).2.2 (fun _ _ h => h) (fun _ h => h.elim) (fun k_ hk => ⟨by have := blk_lt HK6.out; omega, Kd.fresh' (Kd.R_lt HT6.out) k_ hk⟩) aG.out aG.out.size (by simp) ?_; intro aV w8 ho hb hg hat; rw [List.nil_append, ← HZ.out] at ho; have aR := Aside0.mk (Kd.R_mono ho (fun _ hk => hk.1)); have aP := Aside0.mk hb; have HK8 := Aside0.mk (blk_grown HK6.out hg (fun h => absurd rfl (aI.out.1 g1 h.symm).1)); clear ho hb hg hat zr0 zr1 zr2; have zr0 := blk_cell HK8.out 0; have zr1 := blk_cell HK8.out 1; have zr2 := blk_cell HK8.out 2; simp only [List.getElem?_toArray, List.getElem?_cons_zero, List.getElem?_cons_succ] at zr0 zr1 zr2))
 clear zr0 zr1 zr2 HK4 aF aM aK HK5 aI HT6 HK6 aG
 go_loopw [3, 27] (fun v3 aS wr => ∃ y : Nat, y ≤ H ∧ aS = .int .i64 (y : Int) ∧ Aside0 (wr.heap[g1]? = some (.cells #[.int .i64 (W : Int), .int .i64 (H : Int), .slice (some ad) l.length c] 25 (0, 0))) ∧ Aside0 (Kd.R (Kd.int .u8) 5 wr w.heap.size (fun k => k ≠ g1) v3 (rb_bs W H l (y * W))) ∧ Aside0 (Below w.heap.size w wr)) (fun _ i _ => H - (intOf i).toNat)
 case atStart => exact ⟨0, Nat.zero_le _, rfl, HK8, by rw [Nat.zero_mul]; exact aR, aP⟩
 case round =>
  obtain ⟨y, hy, rfl, HK9, aN, aL⟩ := hrel
  by_cases hlt : y < H
  ·have hq : y * W + W ≤ l.length := by rw [HL.out, ← Nat.succ_mul, Nat.mul_comm W]; exact Nat.mul_le_mul_right _ hlt
   have hyw : (y : Int) * (W : Int) = ((y * W : Nat) : Int) := by rw [Int.natCast_mul]
   have hyw2 : ((y : Int) + 1) * (W : Int) = ((y * W + W : Nat) : Int) := by rw [Int.add_mul, hyw]; omega
   have HY1 := Aside0.mk hyw
   have HY2 := Aside0.mk hyw2
   clear hyw hyw2
   obtain ⟨o, ho⟩ : ∃ o, y * W = o := ⟨_, rfl⟩
   rw [ho] at hq
   have aJ := Aside0.mk ho
   clear ho
   have zr0 := blk_cell HK9.out 0
   have zr2 := blk_cell HK9.out 2
   simp only [List.getElem?_toArray, List.getElem?_cons_zero, List.getElem?_cons_succ] at zr0 zr2
   go_wp2_with (fail)
   refine (row_calls (some ad) l.length c y W _ (o : Int) ((o + W : Nat) : Int) (by rw [HY1.out, aJ.out]) (by rw [HY2.out, aJ.out]) (by omega) (by omega) (by omega) (by omega) (by omega) (by omega) hc).mono ?_
   rintro e w2 ⟨rfl, rfl⟩
   rw [show ((o + W : Nat) : Int).toNat - (o : Int).toNat = W by omega]
   simp only [Int.toNat_natCast]
   clear zr0 zr2
   go_wp2_with (fail)
   obtain ⟨wo, rfl⟩ : ∃ wo : World, wo = wr := ⟨_, rfl⟩
   go_loopw [3, 37] (fun v3 aT wi => ∃ x : Nat, x ≤ W ∧ aT = .int .i64 (x : Int) ∧ Aside0 (wi.heap[g1]? = some (.cells #[.int .i64 (W : Int), .int .i64 (H : Int), .slice (some ad) l.length c] 25 (0, 0))) ∧ Aside0 (Kd.R (Kd.int .u8) 5 wi w.heap.size (fun k => k ≠ g1) v3 (rb_bs W H l (o + x))) ∧ Aside0 (Below w.heap.size w wi)) (fun _ i _ => W - (intOf i).toNat)
   case atStart => exact ⟨0, Nat.zero_le _, rfl, HK9, by rw [Nat.add_zero, ← aJ.out]; exact aN, aL⟩
   case round =>
    obtain ⟨x, hx, rfl, HK10, aH, aA⟩ := hrel
    rename World => wi
    by_cases hxl : x < W
    ·have hox : o + x < l.length := by omega
     obtain ⟨ad', ea, k0, k1, k2, k3⟩ := at_T38 (Kd.C_below HC.out aA.out) ((o + x : Nat) : Int) (Int.natCast_nonneg _) (by omega)
     obtain rfl := Option.some.inj ea
     clear ea
     have ex : ad.add (((o + x : Nat) : Int).toNat * 4) = (ad.add (o * 4)).add (x * 4) := by rw [add_add, Int.toNat_natCast]; congr 1; omega
     have hp : rd_T38 l ((o + x : Nat) : Int) = l[o + x] := by
      unfold rd_T38
      rw [Int.toNat_natCast, List.getD_eq_getElem?_getD, List.getElem?_eq_getElem hox]; rfl
     rw [ex, hp] at k0 k1 k2 k3
     have HF : Aside0 (impl_pixBytes.f (rb_bs W H l (o + x)) (l[o + x]).f0 (l[o + x]).f1 (l[o + x]).f2 (l[o + x]).f3 = some (rb_bs W H l (o + x + 1))) := ⟨by
      unfold impl_pixBytes.f
      rw [Option.bind_some, if_pos (by rw [rb_len W H l (o + x) (by omega)]; simp; omega), rb_succ W H l (o + x) hox]
      rfl⟩
     clear ex hp
     generalize l[o + x] = px at *
     go_wp2_with ((with_reducible refine gate_dst (N := 6) rfl ?_); refine box_event rfl (N := 6) rfl (cs := #[.int .i64 0, .int .i64 0, .int .i64 0, .int .i64 0]) (t := 38) oS ?_; intro g6 hg_ W6 hk_ hb_; have HK6 := Aside0.mk hk_; have HN := Aside0.mk (show g1 ≠ g6 from by rw [hg_]; exact Nat.ne_of_lt (blk_lt HK10.out)); have HG6 : Aside0 (w.heap.size ≤ g6) := ⟨(by rw [hg_]; exact aA.out.size)⟩; have aI := Aside0.mk (Kd.R_below (Kd.R_mono (Kd.R_bound aH.out) (ok' := fun k => k ≠ g1 ∧ k ≠ g6) (fun k hk => ⟨hk.1, by have := hk.2.2.1; omega⟩)) hb_); have HK16 := Aside0.mk (blk_below HK10.out hb_); have aG := Aside0.mk (below_then aA.out aA.out.size hb_); clear hk_ hb_ hg_; have y0 := blk_cell HK6.out 0; have y1 := blk_cell HK6.out 1; have y2 := blk_cell HK6.out 2; have y3 := blk_cell HK6.out 3; simp only [List.getElem?_toArray, List.getElem?_cons_zero, List.getElem?_cons_succ] at y0 y1 y2 y3; have yf0 := blk_frozen HK6.out 0; have yf1 := blk_frozen HK6.out 1; have yf2 := blk_frozen HK6.out 2; have yf3 := blk_frozen HK6.out 3)
     refine rb_at (fun V hV => ?_)
     have hr7 := Kd.R_far (p := ⟨g6, 3, none⟩) (Kd.R_far (p := ⟨g6, 2, none⟩) (Kd.R_far (p := ⟨g6, 1, none⟩) (Kd.R_far (p := ⟨g6, 0, none⟩) aI.out (fun _ hk => hk.2) (.int .i64 px.f0)) (fun _ hk => hk.2) (.int .i64 px.f1)) (fun _ hk => hk.2) (.int .i64 px.f2)) (fun _ hk => hk.2) (.int .i64 px.f3)
     rw [← hV] at hr7
     have aQ := Aside0.mk hr7
     have HK7 : Aside0 (V.heap[g1]? = some (.cells #[.int .i64 (W : Int), .int .i64 (H : Int), .slice (some ad) l.length c] 25 (0, 0))) := by rw [hV]; exact ⟨oP HK16⟩
     have aO : Aside0 (Below w.heap.size w V) := by rw [hV]; exact ⟨oB aG⟩
     clear hV hr7 y0 y1 y2 y3 yf0 yf1 yf2 yf3 k0 k1 k2 k3
     refine (impl_pixBytes.calls (fun k => k ≠ g1 ∧ k ≠ g6) _ _ px.f0 px.f1 px.f2 px.f3 _ w V aO.out aQ.out HF.out).mono ?_
     rintro e w8 ⟨v8, rfl, hr8, hb8, hkp⟩
     have HKn := Aside0.mk ((hkp.2 g1 (blk_lt HK7.out) (fun h => h.1 rfl)).trans HK7.out)
     have HRn := Aside0.mk (Kd.R_mono hr8 (ok' := fun k => k ≠ g1) (fun k hk => hk.elim (fun h => h.1) (fun h => by have := blk_lt HK7.out; omega)))
     have HBn := Aside0.mk hb8
     clear hr8 hb8 hkp
     go_wp2_with (fail)
     go_roundw
     case rel =>
      refine ⟨_, _, _, _, _, _, _, _, _, _, ⟨x + 1, by omega, ?_, HKn, HRn, HBn⟩, rfl⟩
      go_num
     case measure => simp [intOf]; omega
    ·obtain rfl : x = W := by omega
     go_wp2_with (fail)
     go_roundw
     case rel => exact ⟨y + 1, by omega, by go_num, HK10, by rw [Nat.succ_mul, aJ.out]; exact aH, aA⟩
     case measure => simp [intOf]; omega
  ·obtain rfl : y = H := by omega
   go_wp2_with (fail)
   go_ret
   exact ⟨_, rfl, by rw [HL.out, Nat.mul_comm]; exact Kd.R_mono aN.out (fun _ _ => trivial), aL.out⟩
set_option maxHeartbeats 1000000 in
set_option maxRecDepth 100000 in
theorem rb_no (kf : Nat) (W H : Int) (l : List S38) (A : Option Addr) (c : Nat) (w : World) (hC : Kd.C k38 w A l.length l) (hc : l.length ≤ c) (ho : impl_RasOk.f kf W H l = some false) :
  Calls Try.prog 41 #[.agg #[.int .i64 W, .int .i64 H, .slice A l.length c]] w fun e w' => ∃ v, e = .returned v ∧ Kd.R (Kd.int .u8) 5 w' w.heap.size (fun _ => True) v [] ∧ Below w.heap.size w w' := by
 have HC := Aside0.mk hC
 have HO := Aside0.mk ho
 clear hC ho
 have hu25 := Try.underlying25
 go_enter Try.func41, Try.ntmps41
 go_wp2_with ((with_reducible refine gate_dst (N := 1) rfl ?_); refine box_event rfl (N := 1) rfl (cs := #[.int .i64 W, .int .i64 H, .slice A l.length c]) (t := 25) oS ?_; intro g1 hg_ W1 hk_ hb_; have HK1 := Aside0.mk hk_; have aD := Aside0.mk (below_then (Below.refl w.heap.size w) (Below.refl w.heap.size w).size hb_); have HG1 : Aside0 (w.heap.size ≤ g1) := ⟨(by rw [hg_]; exact Nat.le_refl _)⟩; clear hk_ hb_ hg_; have zr0 := blk_cell HK1.out 0; have zr1 := blk_cell HK1.out 1; have zr2 := blk_cell HK1.out 2; simp only [List.getElem?_toArray, List.getElem?_cons_zero, List.getElem?_cons_succ] at zr0 zr1 zr2)
 refine (impl_RasOk.calls kf W H A c l false _ (Kd.C_below HC.out aD.out) hc HO.out).mono ?_
 rintro e w4 ⟨rfl, hb4⟩
 have aF := Aside0.mk (below_then aD.out aD.out.size hb4)
 clear zr0 zr1 zr2 hb4
 go_wp2_with (fail)
 go_ret
 exact ⟨_, rfl, Kd.R_nil _ _ _ _ _, aF.out⟩
def impl_RasBytes.f (k : Nat) (a0_0 : Int) (a0_1 : Int) (l0_2 : List (S38)) : Option (List Int) :=
 (impl_RasOk.f k a0_0 a0_1 l0_2).bind fun t => if t = true then (if 1 ≤ a0_0 ∧ a0_0 ≤ 6 ∧ 1 ≤ a0_1 ∧ a0_1 ≤ 6 ∧ (l0_2.length : Int) = a0_0 * a0_1 then some (rb_bs a0_0 a0_1 l0_2 l0_2.length) else none) else some []
theorem impl_RasBytes.mono : ∀ a0 a1 a2 k, LeO (impl_RasBytes.f k a0 a1 a2) (impl_RasBytes.f (k + 1) a0 a1 a2) := by
 intro a0 a1 a2 k
 unfold impl_RasBytes.f
 exact LeO.bind (impl_RasOk.mono _ _ _ _) (fun _ => LeO.refl _)
theorem impl_RasBytes.calls (k : Nat) (a0_0 : Int) (a0_1 : Int) (aB : Option Addr) (aC : Nat) (l0_2 : List (S38)) (r : List Int) (w : World) (hr0_2 : Kd.C k38 w aB l0_2.length l0_2) (aE : l0_2.length ≤ aC) (h : impl_RasBytes.f k a0_0 a0_1 l0_2 = some r) :
  Calls Try.prog 41 #[.agg #[.int .i64 a0_0, .int .i64 a0_1, .slice aB l0_2.length aC]] w fun e w' => ∃ v_ : Value, e = .returned (v_) ∧ Kd.R (Kd.int .u8) 5 w' w.heap.size (fun _ => True) v_ r ∧ Below w.heap.size w w' := by
 unfold impl_RasBytes.f at h
 obtain ⟨t, ht, h⟩ := Option.bind_eq_some_iff.mp h
 cases t with
 | false =>
  rw [if_neg oD] at h
  obtain rfl := Option.some.inj h
  exact rb_no k a0_0 a0_1 l0_2 aB aC w hr0_2 aE ht
 | true =>
  rw [if_pos rfl] at h
  split at h
  case isFalse => cases h
  rename_i hh
  obtain ⟨h1, h2, h3, h4, h5⟩ := hh
  obtain ⟨W, rfl⟩ := Int.eq_ofNat_of_zero_le (show 0 ≤ a0_0 by omega)
  obtain ⟨H, rfl⟩ := Int.eq_ofNat_of_zero_le (show 0 ≤ a0_1 by omega)
  obtain rfl := Option.some.inj h
  exact rb_yes k W H l0_2 aB aC w hr0_2 aE (by omega) (by omega) (by omega) (by omega) (by rw [← Int.natCast_mul] at h5; omega) ht

end Go.Proofs.Ythnmeogafklhnaa.X
