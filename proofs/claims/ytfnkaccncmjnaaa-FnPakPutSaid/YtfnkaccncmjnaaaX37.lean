/- What functions of the program come to, each with its proof. No condition but what each theorem states. -/
import Derived.Test.YtfnkaccncmjnaaaX0
import Derived.Test.YtfnkaccncmjnaaaX34
import Derived.Test.YtfnkaccncmjnaaaX35
import Derived.Test.YtfnkaccncmjnaaaX36
namespace Go.Proofs.Ytfnkaccncmjnaaa.X
open Go.RowKit Go.Proofs.YtfnkaccncmjnaaaW.PrintWords Go.Proofs.YtfnkaccncmjnaaaW.PrintLast Go.Proofs.YtfnkaccncmjnaaaW.PrintMore Go.Proofs.Ytfnkaccncmjnaaa.Hyb
attribute [local go_sem] max2_int min2_int max_two min_two max_three min_three max_four min_four
set_option linter.unusedVariables false
set_option linter.unusedSimpArgs false

/-! ### spec_PakGet: function 28 -/
mutual
def spec_PakGet.l0 : Nat → List Int → List Int → List (List Int) → List Int → Int → Option (List Int × Bool)
 | 0, _, _, _, _, _ => none
 | k + 1, x0, x4, x5, x6, x7 => if x7 < 3200 then ((spec_BitGet.f k x0 x7 9).bind fun bW => (if bW.2 = true then (if bW.1 = 256 then (if (wrap64 (Int.tdiv (wrap64 ((wrap64 (x7 + 9)) + 7)) 8)) = (x0.length : Int) then ((spec_l4Rest.f k x0 (wrap64 (x7 + 9))).bind fun cS => (if cS = true then (some (x4, true)) else (some ((([] : List Int)), false)))) else (some ((([] : List Int)), false))) else ((spec_l4Bytes.f x5 x6 bW.1).bind fun aE => (if (aE.length : Int) = 0 then (spec_PakGet.j1 k x0 x4 x5 x6 x7 aE true) else (spec_PakGet.j1 k x0 x4 x5 x6 x7 aE (decide ((wrap64 ((x4.length : Int) + (aE.length : Int))) > 200)))))) else (some ((([] : List Int)), false)))) else (some ((([] : List Int)), false))
def spec_PakGet.j1 : Nat → List Int → List Int → List (List Int) → List Int → Int → List Int → Bool → Option (List Int × Bool)
 | 0, _, _, _, _, _, _, _ => none
 | k + 1, x0, x4, x5, x6, x7, x10, x59 => if x59 = true then (some ((([] : List Int)), false)) else (if x4.length + x10.length < 140737488355328 then ((some (x4 ++ x10 : List Int)).bind fun aV => (if (x6.length : Int) > 0 then (if (wrap64 (257 + (x5.length : Int))) < 512 then ((some (([] : List Int) : List Int)).bind fun aZ => (if aZ.length + x6.length < 140737488355328 then ((some (aZ ++ x6 : List Int)).bind fun aW => (if 0 < (x10.length : Int) then ((some (([rd x10 0] : List Int) : List Int)).bind fun aM => (if aW.length + aM.length < 140737488355328 then ((some (([(aW ++ aM)] : List (List Int)) : List (List Int))).bind fun aP => (if x5.length + aP.length < 5864062014805 then (spec_PakGet.l0 k x0 aV (x5 ++ aP) x10 (wrap64 (x7 + 9))) else (none))) else (none))) else (none))) else (none))) else (spec_PakGet.l0 k x0 aV x5 x10 (wrap64 (x7 + 9)))) else (spec_PakGet.l0 k x0 aV x5 x10 (wrap64 (x7 + 9))))) else (none))
end
def spec_PakGet.f (k : Nat) (l0 : List Int) : Option (List Int × Bool) := spec_PakGet.l0 k l0 (([] : List Int)) (([] : List (List Int))) (([] : List Int)) 0
theorem spec_PakGet.mono_l : ∀ k, (∀ y0 y1 y2 y3 y4, LeO (spec_PakGet.l0 k y0 y1 y2 y3 y4) (spec_PakGet.l0 (k + 1) y0 y1 y2 y3 y4)) ∧ (∀ y0 y1 y2 y3 y4 y5 y6, LeO (spec_PakGet.j1 k y0 y1 y2 y3 y4 y5 y6) (spec_PakGet.j1 (k + 1) y0 y1 y2 y3 y4 y5 y6))
 | 0 => ⟨(fun _ _ _ _ _ r h => nomatch (show none = some r from h)), (fun _ _ _ _ _ _ _ r h => nomatch (show none = some r from h))⟩
 | k + 1 => by
  obtain ⟨ih0, ih1⟩ := spec_PakGet.mono_l k
  refine ⟨?_, ?_⟩
  ·intro y0 y1 y2 y3 y4
   unfold spec_PakGet.l0
   repeat' first
   | (with_reducible exact ih0 _ _ _ _ _)
   | (with_reducible exact ih1 _ _ _ _ _ _ _)
   | (with_reducible exact spec_BitGet.mono _ _ _ _)
   | (with_reducible exact spec_l4Rest.mono _ _ _)
   | (with_reducible exact LeO.refl _)
   | (with_reducible exact LeO.none _)
   | (with_reducible refine LeO.ite ?_ ?_)
   | (with_reducible refine LeO.bind ?_ (fun _ => ?_))
   | exact ih0 _ _ _ _ _
   | exact ih1 _ _ _ _ _ _ _
   | exact spec_BitGet.mono _ _ _ _
   | exact spec_l4Rest.mono _ _ _
   | exact LeO.none _
   | refine LeO.ite ?_ ?_
   | refine LeO.bind ?_ (fun _ => ?_)
  ·intro y0 y1 y2 y3 y4 y5 y6
   unfold spec_PakGet.j1
   repeat' first
   | (with_reducible exact ih0 _ _ _ _ _)
   | (with_reducible exact ih1 _ _ _ _ _ _ _)
   | (with_reducible exact spec_BitGet.mono _ _ _ _)
   | (with_reducible exact spec_l4Rest.mono _ _ _)
   | (with_reducible exact LeO.refl _)
   | (with_reducible exact LeO.none _)
   | (with_reducible refine LeO.ite ?_ ?_)
   | (with_reducible refine LeO.bind ?_ (fun _ => ?_))
   | exact ih0 _ _ _ _ _
   | exact ih1 _ _ _ _ _ _ _
   | exact spec_BitGet.mono _ _ _ _
   | exact spec_l4Rest.mono _ _ _
   | exact LeO.none _
   | refine LeO.ite ?_ ?_
   | refine LeO.bind ?_ (fun _ => ?_)
theorem spec_PakGet.mono : ∀ a0 k, LeO (spec_PakGet.f k a0) (spec_PakGet.f (k + 1) a0) := by
 intro a0 k
 obtain ⟨ih0, ih1⟩ := spec_PakGet.mono_l k
 unfold spec_PakGet.f
 repeat' first
   | (with_reducible exact ih0 _ _ _ _ _)
   | (with_reducible exact ih1 _ _ _ _ _ _ _)
   | (with_reducible exact spec_BitGet.mono _ _ _ _)
   | (with_reducible exact spec_l4Rest.mono _ _ _)
   | (with_reducible exact LeO.refl _)
   | (with_reducible exact LeO.none _)
   | (with_reducible refine LeO.ite ?_ ?_)
   | (with_reducible refine LeO.bind ?_ (fun _ => ?_))
   | exact ih0 _ _ _ _ _
   | exact ih1 _ _ _ _ _ _ _
   | exact spec_BitGet.mono _ _ _ _
   | exact spec_l4Rest.mono _ _ _
   | exact LeO.none _
   | refine LeO.ite ?_ ?_
   | refine LeO.bind ?_ (fun _ => ?_)
def spec_PakGet.T19 : Bool × List (List Nat × List Nat) := (true, [([], []), ([], []), ([], []), ([1, 2], [1, 2]), ([], []), ([4], [4]), ([5], [5]), ([6], [6]), ([3, 7, 3], [3, 7]), ([8], [8]), ([0, 9, 8], [0, 9]), ([10, 10, 0, 1, 2, 3, 4, 5, 6, 7, 8, 9, 10], [0, 10])])
def spec_PakGet.B19 : List Nat := [0, 0, 0, 6, 0, 16, 48, 112, 254, 510, 1023, 2047]
theorem spec_PakGet.tab19 : rtab .any (opsOf Try.f28 19) = spec_PakGet.T19 := by kernel_rfl
theorem spec_PakGet.bits19 : waitsOk spec_PakGet.T19.2 spec_PakGet.B19 = true := by kernel_rfl
/-- A row of bytes that lies in no block of some, seen behind an append to one of these. -/
theorem pg_last {W w1 : World} {ad : Addr} {n c base : Nat} {xs : List Int} {ok : Nat → Prop} {met fY aJ : Value} (h : Kd.V (Kd.int .u8) 5 W base ok (.slice (some ad) n c) xs) (hn : 0 < n) (hj : ∀ k, ok k → some k ≠ aJ.ownBlock) (hm : some ad.block ≠ met.ownBlock) (hg : W.grownBy w1 met.ownBlock)
    (hat : fY.ownBlock = met.ownBlock ∨ ∃ b, fY.ownBlock = some b ∧ W.heap.size ≤ b) : Kd.V (Kd.int .u8) 5 w1 base (fun k => some k ≠ (aJ : Value).ownBlock ∧ some k ≠ (fY : Value).ownBlock) (.slice (some ad) n c) xs := by
  obtain ⟨rfl, hl, hF⟩ := Kd.V_at h
  obtain ⟨ad', c', he, hcl, hK, hcc, hok⟩ := Kd.F_get hF 0 0 (Int.le_refl _) (by omega)
  obtain rfl : ad = ad' := by injection he
  have hb := hok (Nat.zero_lt_one)
  have hlt : ad.block < W.heap.size := by
    have h0 := hcc 0 (c'[0]'(by rw [hcl]; exact Nat.zero_lt_one)) (List.getElem?_eq_getElem _)
    have := World.block_lt_of_cell? W _ h0
    rwa [add_block] at this
  have hC := Kd.F_now hF
  have hT : Kd.F (Kd.int .u8) W (fun k => k = ad.block) (some ad) xs.length xs := by
    intro W' hW
    have hh := hW ad.block rfl hlt
    refine ⟨hC.1, hC.2.1, fun hp => ?_⟩
    obtain ⟨gQ, he2, hq⟩ := hC.2.2 hp
    obtain rfl : ad = gQ := by injection he2
    refine ⟨ad, rfl, fun j p hjp => ?_⟩
    obtain ⟨c2, h1, h2, h3⟩ := hq j p hjp
    refine ⟨c2, h1, h2, fun i u hu => ?_⟩
    have h4 := h3 i u hu
    unfold World.cell? at h4 ⊢
    rw [add_block] at h4 ⊢
    rw [hh]; exact h4
  refine ⟨some ad, c, rfl, hl, Kd.F_mono (Kd.F_grown hT hg (fun k hk => by rw [hk]; exact hm)) (fun k hk => ?_)⟩
  subst hk
  refine ⟨hj _ hb, ?_⟩
  rcases hat with hat | ⟨b, hat, hge⟩
  · rw [hat]; exact hm
  · rw [hat]; intro e; injection e with e; omega
/-- .. and that it lies in none of them. -/
theorem pg_ok {W : World} {A : Option Addr} {ad : Addr} {n c base : Nat} {xs : List Int} {ok : Nat → Prop} (h : Kd.V (Kd.int .u8) 5 W base ok (.slice A n c) xs) (hn : 0 < n) (hA : A = some ad) : ok ad.block := by
  obtain ⟨rfl, hl, hF⟩ := Kd.V_at h
  obtain ⟨ad', c', he, hcl, hK, hcc, hok⟩ := Kd.F_get hF 0 0 (Int.le_refl _) (by omega)
  subst hA
  obtain rfl : ad = ad' := by injection he
  exact hok Nat.zero_lt_one
theorem pg_start {W : World} {b : Nat} {c f p : Value} {xs : List Int} {ys : List (List Int)} {ok okc : Nat → Prop} (hR : Kd.R (Kd.int .u8) 5 W b okc f xs) (hc : ∀ k, okc k → some k ≠ c.ownBlock) (hN : Kd.N (Kd.slice 5 (Kd.int .u8)) 24 W b ok p ys) (hok : ∀ k, ok k → some k ≠ f.ownBlock) :
    Kd.V (Kd.int .u8) 5 W b (fun k => some k ≠ (c : Value).ownBlock ∧ some k ≠ (p : Value).ownBlock) f xs := by
  refine Kd.V_mono (Kd.R_V (Kd.R_tight2 rfl hR)) (fun k hk => ⟨hc k hk.2, fun e => ?_⟩)
  exact hok k (hN.1 k e.symm) hk.1
set_option maxHeartbeats 8000000 in
set_option maxRecDepth 100000 in
theorem pg_l4Bytes (b0_ : Nat) (ok0_ P0_ : Nat → Prop) (A0 : Option Addr) (c0 : Nat) (l0 : List (List Int)) (A1 : Option Addr) (c1 : Nat) (l1 : List Int) (a2 : Int) (r : List Int) (w : World) (hp0 : ∀ k_, ok0_ k_ → some k_ ≠ (.slice A0 l0.length c0 : Value).ownBlock → P0_ k_) (hsN : Kd.N (Kd.slice 5 (Kd.int .u8)) 24 w b0_ ok0_ (.slice A0 l0.length c0) l0) (hr1 : Kd.C (Kd.int .u8) w A1 l1.length l1) (cM : l1.length ≤ c1) (h : spec_l4Bytes.f l0 l1 a2 = some r) :
  Calls Try.prog 49 #[.slice A0 l0.length c0, .slice A1 l1.length c1, .int .i64 a2] w fun e w' => ∃ cS : Value, e = .returned (cS) ∧ Kd.V (Kd.int .u8) 5 w' w.heap.size (fun k_ => (P0_ k_ ∨ w.heap.size ≤ k_)) cS r ∧ Below w.heap.size w w' := by
 have aD := Aside0.mk (Kd.N_V (base' := w.heap.size) hsN)
 have HsN := Aside0.mk hsN
 clear hsN
 have bX := Aside0.mk hr1
 have dC := Aside0.mk cM
 clear hr1 cM
 have HB := Aside0.mk (Below.refl w.heap.size w)
 have H : (if a2 < 256 then (some (([(a2) % 256] : List Int))) else (if (wrap64 (a2 - 257)) < (l0.length : Int) then (if 0 ≤ (wrap64 (a2 - 257)) then (some (rd_L4 l0 (wrap64 (a2 - 257)))) else (none)) else (if (wrap64 (a2 - 257)) = (l0.length : Int) then (if (l1.length : Int) > 0 then (if a2 < 512 then ((some (([] : List Int) : List Int)).bind fun aK => (if aK.length + l1.length < 140737488355328 then ((some (aK ++ l1 : List Int)).bind fun aH => (if 0 < (l1.length : Int) then ((some (([rd l1 0] : List Int) : List Int)).bind fun aC => (if aH.length + aC.length < 140737488355328 then (some (aH ++ aC)) else (none))) else (none))) else (none))) else (some (([] : List Int)))) else (some (([] : List Int)))) else (some (([] : List Int)))))) = some r := h
 clear h
 by_cases c4 : a2 < 256
 ·rw [if_pos c4] at H
  have cF : decide (a2 < 256) = true := decide_eq_true c4
  clear c4
  obtain ⟨y371, hy371⟩ : ∃ y_ : List Int, y_ = (([(a2) % 256] : List Int)) := ⟨_, rfl⟩
  replace H : (some y371) = some r := by first | (rw [hy371]; with_reducible exact H) | (have H2_ := (Option.bind_some _ _).symm.trans H; rw [hy371]; with_reducible exact H2_) | (have H2_ := (Option.bind_some _ _).symm.trans H; with_reducible exact H2_) | with_reducible exact H | (rw [hy371]; exact H) | exact H
  have aZ := Aside0.mk hy371
  clear hy371
  obtain rfl := Option.some.inj H
  go_enter Try.func49, Try.ntmps49
  go_wp2_with (first | ((with_reducible refine gate_dst (N := 12) rfl ?_); (try (refine gate_guard (by rfl) ?_; dsimp only)); refine Kd.R_lit (Kd.int .u8) _ 5 ?hg (N := 12) ?hd (xs := ([(a2) % 256] : List Int)) (inner := [.int .u8 ((a2) % 256)]) (ok := fun _ => True) (okp := fun _ => True) ?hr ?hp (fun _ hk => hk) trivial (Below.refl _ _) (Nat.le_refl _) (by simp) ?_; (case hd => rfl); (case hg => rfl); (case hr => first | (go_simp; done) | (go_simp; rfl)); (case hp => exact (Reps.one (show Kd.M (Kd.int .u8) _ _ _ ((a2) % 256) [.int .u8 ((a2) % 256)] from rfl) (Reps.none _ _))); intro cV w5 ho6 hb hg_ hnew_; clear hg_ hnew_; (first | rw [← aZ.out] at ho6 | (simp only [Int.reduceToNat] at ho6; rw [← aZ.out] at ho6)); have n_ := o2_ (Kd.V_elder' (oV aD) (Kd.R_base ho6) hb) (o2_ (Kd.R_lower (Kd.R_newM (M := fun k_ => (w.heap.size ≤ k_)) ho6 (below_size (oB HB)) (fun k_ h_ => h_)) (below_size (oB HB))) (o1_ (below_step (oB HB) hb))); clear aD HB; obtain ⟨aD, bI, HB⟩ := n_; clear hb ho6))
  go_ret
  exact ⟨_, by first | rfl | (simp [errW_none, errW_some] <;> rfl) | (simp [*, errW_none, errW_some] <;> rfl), Kd.V_mono (Kd.R_V (by (with_reducible repeat (first | apply Kd.R_alloc | apply Kd.R_drewN | apply Kd.R_drew)); exact Kd.R_mono bI.out (fun _ hk => hk.1))) (fun k_ hk => by first | exact ⟨(.inr (hk.1)), hk.2⟩ | exact (.inr (hk))), oB HB⟩
 ·rw [if_neg c4] at H
  have cF : decide (a2 < 256) = false := decide_eq_false c4
  clear c4
  by_cases c7 : (wrap64 (a2 - 257)) < (l0.length : Int)
  ·rw [if_pos c7] at H
   have bT : decide ((wrap64 (a2 - 257)) < (l0.length : Int)) = true := decide_eq_true c7
   clear c7
   obtain ⟨ji8, hji8⟩ : ∃ j_ : Int, (wrap64 (a2 - 257)) = j_ := ⟨_, rfl⟩
   replace H : (if 0 ≤ (ji8) then (some (rd_L4 l0 (ji8))) else (none)) = some r := by first | (rw [hji8] at H; exact H) | (simp only [hji8] at H ⊢; exact H)
   (try rw [hji8] at bT)
   have cN : (IntKind.i64.wrap (a2 - 257)) = ji8 := (i64_w _).trans hji8
   by_cases c9 : 0 ≤ (ji8)
   ·rw [if_pos c9] at H
    have cU : decide (0 ≤ (ji8)) = true := decide_eq_true c9
    clear c9
    obtain rfl := Option.some.inj H
    have aX : 0 ≤ ((ji8) : Int) := of_decide_eq_true oM
    have aY : (ji8) < (l0.length : Int) := of_decide_eq_true oM
    obtain ⟨cJ, cC, cE, cH, aW, hl374_0, hi374_0⟩ := at_L4 (Kd.V_reads' aD.out).2.2 (ji8) aX aY
    cases cH
    obtain ⟨ce374, hce374, hMe374, hcc374⟩ := Kd.N_get HsN.out [] (ji8) aX (by first | exact aY | exact of_decide_eq_true oM | (have e_ := (Kd.V_reads' aD.out).1; omega))
    obtain ⟨ua374_0, uc374_0, rfl, ul374_0, ge374_0⟩ := Kd.FK_slice_open hMe374
    have hv374_0 := hcc374 0 _ rfl
    rw [Nat.add_zero, show ((Kd.slice 5 (Kd.int .u8))).sz = 1 from rfl, Nat.mul_one] at hv374_0
    replace hv374_0 := Option.some.inj (hv374_0.symm.trans aW)
    injection hv374_0 with hva_ hvn_ hvc_
    rw [hva_] at ge374_0
    rw [hvc_] at ul374_0
    have aV := Aside0.mk (show Kd.V (Kd.int .u8) 5 _ w.heap.size _ _ (rd_L4 l0 (ji8)) from Kd.V_mk ul374_0 ge374_0)
    clear hva_ hvn_ hvc_ ge374_0 ul374_0
    clear hcc374 hce374
    have bY := Aside0.mk hi374_0
    have bW := Aside0.mk hl374_0
    clear hi374_0 hl374_0
    replace aX := eq_true aX
    replace aY := eq_true aY
    go_enter Try.func49, Try.ntmps49
    go_wp2
    go_ret
    exact ⟨_, by first | rfl | (simp [errW_none, errW_some] <;> rfl) | (simp only [← hji8]; first | rfl | (simp [errW_none, errW_some] <;> rfl)) | (simp [*, errW_none, errW_some] <;> rfl), by (with_reducible repeat (first | apply Kd.V_alloc | apply Kd.V_drewN | apply Kd.V_drew)); exact Kd.V_mono aV.out (fun k_ hk => .inl (hp0 k_ hk.1 hk.2)), oB HB⟩
   ·rw [if_neg c9] at H
    exact absurd H (by simp)
  ·rw [if_neg c7] at H
   have bT : decide ((wrap64 (a2 - 257)) < (l0.length : Int)) = false := decide_eq_false c7
   clear c7
   by_cases bD : (wrap64 (a2 - 257)) = (l0.length : Int)
   ·rw [if_pos bD] at H
    have bO : ((wrap64 (a2 - 257)) == (l0.length : Int)) = true := beq_iff_eq.mpr bD
    have bP : ((wrap64 (a2 - 257)) != (l0.length : Int)) = false := bne_eq_false_iff_eq.mpr bD
    clear bD
    by_cases bG : (l1.length : Int) > 0
    ·rw [if_pos bG] at H
     have bQ : decide (0 < (l1.length : Int)) = true := decide_eq_true bG
     have bR : decide (0 < l1.length) = true := decide_eq_true (by omega)
     clear bG
     by_cases bH : a2 < 512
     ·rw [if_pos bH] at H
      have bS : decide (a2 < 512) = true := decide_eq_true bH
      clear bH
      obtain ⟨aK, hy375⟩ : ∃ y_ : List Int, y_ = (([] : List Int)) := ⟨_, rfl⟩
      replace H : (if aK.length + l1.length < 140737488355328 then ((some (aK ++ l1 : List Int)).bind fun aH => (if 0 < (l1.length : Int) then ((some (([rd l1 0] : List Int) : List Int)).bind fun aC => (if aH.length + aC.length < 140737488355328 then (some (aH ++ aC)) else (none))) else (none))) else (none)) = some r := by first | (rw [hy375]; with_reducible exact H) | (have H2_ := (Option.bind_some _ _).symm.trans H; rw [hy375]; with_reducible exact H2_) | (have H2_ := (Option.bind_some _ _).symm.trans H; with_reducible exact H2_) | with_reducible exact H | (rw [hy375]; exact H) | exact H
      have aQ := Aside0.mk hy375
      clear hy375
      by_cases bZ : aK.length + l1.length < 140737488355328
      ·rw [if_pos bZ] at H
       have LMc13 := Aside0.mk bZ
       clear bZ
       obtain ⟨aH, hy378⟩ : ∃ y_ : List Int, y_ = (aK ++ l1) := ⟨_, rfl⟩
       replace H : (if 0 < (l1.length : Int) then ((some (([rd l1 0] : List Int) : List Int)).bind fun aC => (if aH.length + aC.length < 140737488355328 then (some (aH ++ aC)) else (none))) else (none)) = some r := by first | (rw [hy378]; with_reducible exact H) | (have H2_ := (Option.bind_some _ _).symm.trans H; rw [hy378]; with_reducible exact H2_) | (have H2_ := (Option.bind_some _ _).symm.trans H; with_reducible exact H2_) | with_reducible exact H | (rw [hy378]; exact H) | exact H
       have aT := Aside0.mk hy378
       clear hy378
       by_cases cA : 0 < (l1.length : Int)
       ·rw [if_pos cA] at H
        have cK : decide (0 < (l1.length : Int)) = true := decide_eq_true cA
        have cL : decide (0 < l1.length) = true := decide_eq_true (by omega)
        clear cA
        obtain ⟨aC, hy382⟩ : ∃ y_ : List Int, y_ = (([rd l1 0] : List Int)) := ⟨_, rfl⟩
        replace H : (if aH.length + aC.length < 140737488355328 then (some (aH ++ aC)) else (none)) = some r := by first | (rw [hy382]; with_reducible exact H) | (have H2_ := (Option.bind_some _ _).symm.trans H; rw [hy382]; with_reducible exact H2_) | (have H2_ := (Option.bind_some _ _).symm.trans H; with_reducible exact H2_) | with_reducible exact H | (rw [hy382]; exact H) | exact H
        have aN := Aside0.mk hy382
        clear hy382
        by_cases cB : aH.length + aC.length < 140737488355328
        ·rw [if_pos cB] at H
         have LMc15 := Aside0.mk cB
         clear cB
         obtain ⟨y385, hy385⟩ : ∃ y_ : List Int, y_ = (aH ++ aC) := ⟨_, rfl⟩
         replace H : (some y385) = some r := by first | (rw [hy385]; with_reducible exact H) | (have H2_ := (Option.bind_some _ _).symm.trans H; rw [hy385]; with_reducible exact H2_) | (have H2_ := (Option.bind_some _ _).symm.trans H; with_reducible exact H2_) | with_reducible exact H | (rw [hy385]; exact H) | exact H
         have bN := Aside0.mk hy385
         clear hy385
         obtain rfl := Option.some.inj H
         go_enter Try.func49, Try.ntmps49
         try go_wp2
         have n_ := o2_ (Kd.V_drew aD.out) (o1_ (below_drew1 HB.out))
         clear aD HB
         obtain ⟨aD, HB⟩ := n_
         have bE : 0 ≤ (0 : Int) := (by omega)
         have bF : 0 < (l1.length : Int) := of_decide_eq_true oM
         obtain ⟨aU, cI, aE⟩ := Kd.at_int bX.out 0 bE bF
         have hw381_0 := aE
         (try rw [show ((0 : Int)).toNat = 0 from rfl] at hw381_0)
         (try rw [show 0 * 1 = 0 from rfl] at hw381_0)
         (try rw [Addr.add_zero'] at hw381_0)
         cases cI
         have qi381 : (0 < l1.length) = True := eq_true (by omega)
         (try rw [show ((0 : Int)).toNat = 0 from rfl] at aE)
         (try rw [Addr.add_zero'] at aE)
         replace aE := (HB.out.cell (World.block_lt_of_cell? w _ aE)).trans aE
         replace bE := eq_true bE
         replace bF := eq_true bF
         refine start_ (n := 9) (S := fun w' => w'.cell? aU = some (.int .u8 (rd l1 0))) (ds := []) #[false, false, false, false, false, false, false, false, false] oK rfl rfl (((HB.out.cell (World.block_lt_of_cell? w _ hw381_0)).trans hw381_0)) (fun hHeld => ?_); refine with_tabW spec_l4Bytes.tab7 spec_l4Bytes.bits7 (fun HT_ HW_ => ?_)
         generalize w.drew = dD at aD HB aE hHeld ⊢
         refine pure_ (i := 1) (N := some 37) (v := ?_) (a' := ?_) #[false, true, false, false, false, false, false, false, false] rfl rfl (any_of HT_.out oK) (fun _ _ _ h => h) (Or.inl ⟨by rfl, ?_⟩) ?_ ?_
         rotate_left
         ·intro w'
          go_simp
          with_reducible rfl
         rotate_left
         ·exact oT
         refine pure_ (i := 3) (N := some 39) (v := ?_) (a' := ?_) #[false, true, false, true, false, false, false, false, false] rfl rfl (any_of HT_.out oK) (fun _ _ _ h => h) (Or.inl ⟨by rfl, ?_⟩) ?_ ?_
         rotate_left
         ·intro w'
          go_simp
          with_reducible rfl
         rotate_left
         ·exact oT
         refine pure_ (i := 4) (N := some 40) (v := ?_) (a' := ?_) #[false, true, false, true, true, false, false, false, false] rfl rfl (any_of HT_.out oK) (fun _ _ _ h => h) (Or.inl ⟨by rfl, ?_⟩) ?_ ?_
         rotate_left
         ·intro w'
          go_simp
          with_reducible rfl
         rotate_left
         ·exact oT
         refine take_ (i := 5) (N := some 41) (v := ?_) (a' := ?_) #[false, true, false, true, true, true, false, false, false] rfl rfl (take_ofW HT_.out HW_.out oK) (fun _ _ _ h => h) (Or.inl ⟨by rfl, ?_⟩) hHeld ?_ ?_
         rotate_left
         ·intro w' s0
          go_simp
          with_reducible rfl
         rotate_left
         ·exact oT
         refine join_ (σ := Value × Value × Value) 2 #[true, true, true, true, true, true, true, false, false] (fun s_ => [(36, s_.1), (38, s_.2.1), (42, s_.2.2)]) (fun s_ w' => (w'.cell? aU = some (.int .u8 (rd l1 0))) ∧ (Kd.V (Kd.slice 5 (Kd.int .u8)) 24 w' w.heap.size (fun k_ => (ok0_ k_) ∧ some k_ ≠ (s_.2.1 : Value).ownBlock ∧ some k_ ≠ (s_.2.2 : Value).ownBlock) (.slice A0 l0.length c0) l0) ∧ (Kd.R (Kd.int .u8) 5 w' w.heap.size (fun k_ => (w.heap.size ≤ k_) ∧ some k_ ≠ (s_.2.2 : Value).ownBlock) s_.2.1 aH) ∧ (Kd.R (Kd.int .u8) 5 w' w.heap.size (fun k_ => (w.heap.size ≤ k_) ∧ some k_ ≠ (s_.2.1 : Value).ownBlock) s_.2.2 aC) ∧ (Below w.heap.size w w')) ?_ ?_
         rotate_left
         ·intro hCont
          refine two_ (i := 0) (j := 6) (Ni := some 36) (Nj := some 42) #[true, true, false, true, true, true, false, false, false] #[false, true, false, true, true, true, true, false, false] rfl rfl rfl rfl (two_of HT_.out oK) oD oD (fun K hK => ?_) (fun K hK => ?_)
          ·skip
           refine Kd.R_lit_step (Kd.int .u8) _ 5 ?hg (N := 36) ?hd (xs := ([] : List Int)) (inner := []) (ok := fun _ => True) (okp := fun _ => True) ?hr ?hp (fun _ hk => hk) trivial (Below.refl _ _) (Nat.le_refl _) (by simp) ?_; (case hd => rfl); (case hg => rfl); (case hr => first | (go_simp; done) | (go_simp; rfl)); (case hp => exact (Reps.none _ _))
           intro aP dA ho18 hb hg_ hnew_
           clear hg_ hnew_
           (first | rw [← aQ.out] at ho18 | (simp only [Int.reduceToNat] at ho18; rw [← aQ.out] at ho18))
           have n_ := o2_ (Kd.V_elder' (oV aD) (Kd.R_base ho18) hb) (o2_ (Kd.R_lower (Kd.R_newM (M := fun k_ => (w.heap.size ≤ k_)) ho18 (below_size (oB HB)) (fun k_ h_ => h_)) (below_size (oB HB))) (o1_ (below_step (oB HB) hb)))
           clear aD HB
           obtain ⟨aD, aI, HB⟩ := n_
           clear hb ho18
           refine hK.out _ _ (((HB.out.cell (World.block_lt_of_cell? w _ hw381_0)).trans hw381_0)) (fun hHeld => ?_)
           clear hK K
           refine norm_ (a' := ?_) ?_ ?_
           rotate_left
           ·show Act.put _ (some 36) _ = _
            exact oT
           refine two_ (i := 2) (j := 6) (Ni := some 38) (Nj := some 42) #[true, true, true, true, true, true, false, false, false] #[true, true, false, true, true, true, true, false, false] rfl rfl rfl rfl (two_of HT_.out oK) oD oD (fun K hK => ?_) (fun K hK => ?_)
           ·skip
            refine Kd.R_append_rows_step (Kd.int .u8) (w0 := w) w.heap.size (by rfl) (.tmp 36) (.tmp 37) 24 5 (.int .u8 0) 1 rfl Try.underlying24 info5 rfl oD (by omega) aP aK l1 _ _ _ (fun k_ => (w.heap.size ≤ k_)) (fun _ => False) rfl rfl ?aO ?aR (fun _ _ h => h) (fun _ h => h.elim) ?aF ?aB ?aS ?aL ?_
            (case aR => repeat (first | exact (Kd.C_below bX.out HB.out) | (with_reducible refine Kd.C_alloc ?_ _) | (with_reducible refine Kd.C_drewN ?_ _) | (with_reducible refine Kd.C_drew ?_)))
            (case aB => exact (oB HB))
            (case aF => exact (fun k_ hk => (Nat.le_trans (below_size (oB HB)) hk)))
            (case aO => exact (by (with_reducible repeat (first | apply Kd.R_alloc | apply Kd.R_drewN | apply Kd.R_drew)); exact Kd.R_mono aI.out (fun _ hk => hk.1)))
            (case aS => exact (below_size (oB HB)))
            (case aL => have := LMc13.out; omega)
            intro aM cT ho hb hg hat
            rw [← aT.out] at ho
            have n_ := o2_ (Kd.V_afterv (ok := (fun k_ => (ok0_ k_))) (oV aD) hg hat) (o2_ (hb) (o1_ (ho)))
            clear aD HB aI
            obtain ⟨aD, HB, aG⟩ := n_
            clear ho hb hg hat
            refine hK.out _ _ (((HB.out.cell (World.block_lt_of_cell? w _ hw381_0)).trans hw381_0)) (fun hHeld => ?_)
            clear hK K
            refine norm_ (a' := ?_) ?_ ?_
            rotate_left
            ·show Act.put _ (some 38) _ = _
             exact oT
            refine one_ (i := 6) (N := some 42) #[true, true, true, true, true, true, true, false, false] rfl rfl (one_of HT_.out oK) oD (fun K hK => ?_)
            refine Kd.R_lit_step (Kd.int .u8) _ 5 ?hg (N := 42) ?hd (xs := ([rd l1 0] : List Int)) (inner := [.int .u8 (rd l1 0)]) (ok := fun _ => True) (okp := fun _ => True) ?hr ?hp (fun _ hk => hk) trivial (Below.refl _ _) (Nat.le_refl _) (by simp) ?_; (case hd => rfl); (case hg => rfl); (case hr => first | (go_simp; done) | (go_simp; rfl)); (case hp => exact (Reps.one (show Kd.M (Kd.int .u8) _ _ _ (rd l1 0) [.int .u8 (rd l1 0)] from rfl) (Reps.none _ _)))
            intro aJ dE ho21 hb hg_ hnew_
            clear hg_ hnew_
            (first | rw [← aN.out] at ho21 | (simp only [Int.reduceToNat] at ho21; rw [← aN.out] at ho21))
            have n_ := o2_ (Kd.V_elder' (oV aD) (Kd.R_base ho21) hb) (o2_ (Kd.R_elder' (oR aG) (Kd.R_base ho21) hb) (o2_ (Kd.R_lower (Kd.R_new' (Kd.R_newM (M := fun k_ => (w.heap.size ≤ k_)) ho21 (below_size (oB HB)) (fun k_ h_ => h_)) (Kd.R_lt (oR aG))) (below_size (oB HB))) (o1_ (below_step (oB HB) hb))))
            clear aD aG HB
            obtain ⟨aD, aG, aA, HB⟩ := n_
            clear hb ho21
            refine hK.out _ _ (((HB.out.cell (World.block_lt_of_cell? w _ hw381_0)).trans hw381_0)) (fun hHeld => ?_)
            clear hK K
            refine norm_ (a' := ?_) ?_ ?_
            rotate_left
            ·show Act.put _ (some 42) _ = _
             exact oT
            exact norm_ (by simp only [putAll, Act.put, List.setIfInBounds_toArray, List.set_cons_zero, List.set_cons_succ]) (hCont (aP, aM, aJ) _ ⟨hHeld, (by (with_reducible repeat (first | apply Kd.V_alloc | apply Kd.V_drewN | apply Kd.V_drew)); exact Kd.V_mono aD.out (fun _ hk => ⟨hk.1.1, ⟨hk.1.2, hk.2⟩⟩)), (oR aG), (by (with_reducible repeat (first | apply Kd.R_alloc | apply Kd.R_drewN | apply Kd.R_drew)); exact Kd.R_mono aA.out (fun _ hk => ⟨hk.1.1, hk.2⟩)), (oB HB)⟩)
           ·skip
            refine Kd.R_lit_step (Kd.int .u8) _ 5 ?hg (N := 42) ?hd (xs := ([rd l1 0] : List Int)) (inner := [.int .u8 (rd l1 0)]) (ok := fun _ => True) (okp := fun _ => True) ?hr ?hp (fun _ hk => hk) trivial (Below.refl _ _) (Nat.le_refl _) (by simp) ?_; (case hd => rfl); (case hg => rfl); (case hr => first | (go_simp; done) | (go_simp; rfl)); (case hp => exact (Reps.one (show Kd.M (Kd.int .u8) _ _ _ (rd l1 0) [.int .u8 (rd l1 0)] from rfl) (Reps.none _ _)))
            intro aJ cT ho20 hb hg_ hnew_
            clear hg_ hnew_
            (first | rw [← aN.out] at ho20 | (simp only [Int.reduceToNat] at ho20; rw [← aN.out] at ho20))
            have n_ := o2_ (Kd.V_elder' (oV aD) (Kd.R_base ho20) hb) (o2_ (Kd.R_elder' (oR aI) (Kd.R_base ho20) hb) (o2_ (Kd.R_lower (Kd.R_new' (Kd.R_newM (M := fun k_ => (w.heap.size ≤ k_)) ho20 (below_size (oB HB)) (fun k_ h_ => h_)) (Kd.R_lt (oR aI))) (below_size (oB HB))) (o1_ (below_step (oB HB) hb))))
            clear aD aI HB
            obtain ⟨aD, aI, aA, HB⟩ := n_
            clear hb ho20
            refine hK.out _ _ (((HB.out.cell (World.block_lt_of_cell? w _ hw381_0)).trans hw381_0)) (fun hHeld => ?_)
            clear hK K
            refine norm_ (a' := ?_) ?_ ?_
            rotate_left
            ·show Act.put _ (some 42) _ = _
             exact oT
            refine one_ (i := 2) (N := some 38) #[true, true, true, true, true, true, true, false, false] rfl rfl (one_of HT_.out oK) oD (fun K hK => ?_)
            refine Kd.R_append_rows_step (Kd.int .u8) (w0 := w) w.heap.size (by rfl) (.tmp 36) (.tmp 37) 24 5 (.int .u8 0) 1 rfl Try.underlying24 info5 rfl oD (by omega) aP aK l1 _ _ _ (fun k_ => (w.heap.size ≤ k_) ∧ some k_ ≠ (aJ : Value).ownBlock) (fun _ => False) rfl rfl ?aO ?aR (fun _ _ h => h) (fun _ h => h.elim) ?aF ?aB ?aS ?aL ?_
            (case aR => repeat (first | exact (Kd.C_below bX.out HB.out) | (with_reducible refine Kd.C_alloc ?_ _) | (with_reducible refine Kd.C_drewN ?_ _) | (with_reducible refine Kd.C_drew ?_)))
            (case aB => exact (oB HB))
            (case aF => exact (fun k_ hk => ⟨(Nat.le_trans (below_size (oB HB)) hk), Kd.fresh' (Kd.R_lt (oR aA)) k_ hk⟩))
            (case aO => exact (by (with_reducible repeat (first | apply Kd.R_alloc | apply Kd.R_drewN | apply Kd.R_drew)); exact Kd.R_mono aI.out (fun _ hk => ⟨hk.1.1, hk.2⟩)))
            (case aS => exact (below_size (oB HB)))
            (case aL => have := LMc13.out; omega)
            intro aM dB ho hb hg hat
            rw [← aT.out] at ho
            have n_ := o2_ (Kd.V_afterv (ok := (fun k_ => (ok0_ k_) ∧ some k_ ≠ (aJ : Value).ownBlock)) (by (with_reducible repeat (first | apply Kd.V_alloc | apply Kd.V_drewN | apply Kd.V_drew)); exact Kd.V_mono aD.out (fun _ hk => ⟨⟨hk.1.1, hk.2⟩, hk.1.2⟩)) hg hat) (o2_ (Kd.R_after (ok := (fun k_ => (w.heap.size ≤ k_))) (by (with_reducible repeat (first | apply Kd.R_alloc | apply Kd.R_drewN | apply Kd.R_drew)); exact Kd.R_mono aA.out (fun _ hk => ⟨hk.1.1, hk.2⟩)) hg hat) (o2_ (hb) (o1_ (ho))))
            clear aD aA HB aI
            obtain ⟨aD, aA, HB, aG⟩ := n_
            clear ho hb hg hat
            refine hK.out _ _ (((HB.out.cell (World.block_lt_of_cell? w _ hw381_0)).trans hw381_0)) (fun hHeld => ?_)
            clear hK K
            refine norm_ (a' := ?_) ?_ ?_
            rotate_left
            ·show Act.put _ (some 38) _ = _
             exact oT
            exact norm_ (by simp only [putAll, Act.put, List.setIfInBounds_toArray, List.set_cons_zero, List.set_cons_succ]) (hCont (aP, aM, aJ) _ ⟨hHeld, (by (with_reducible repeat (first | apply Kd.V_alloc | apply Kd.V_drewN | apply Kd.V_drew)); exact Kd.V_mono aD.out (fun _ hk => ⟨hk.1.1, ⟨hk.2, hk.1.2⟩⟩)), (oR aG), (oR aA), (oB HB)⟩)
          ·skip
           refine Kd.R_lit_step (Kd.int .u8) _ 5 ?hg (N := 42) ?hd (xs := ([rd l1 0] : List Int)) (inner := [.int .u8 (rd l1 0)]) (ok := fun _ => True) (okp := fun _ => True) ?hr ?hp (fun _ hk => hk) trivial (Below.refl _ _) (Nat.le_refl _) (by simp) ?_; (case hd => rfl); (case hg => rfl); (case hr => first | (go_simp; done) | (go_simp; rfl)); (case hp => exact (Reps.one (show Kd.M (Kd.int .u8) _ _ _ (rd l1 0) [.int .u8 (rd l1 0)] from rfl) (Reps.none _ _)))
           intro aJ dA ho18 hb hg_ hnew_
           clear hg_ hnew_
           (first | rw [← aN.out] at ho18 | (simp only [Int.reduceToNat] at ho18; rw [← aN.out] at ho18))
           have n_ := o2_ (Kd.V_elder' (oV aD) (Kd.R_base ho18) hb) (o2_ (Kd.R_lower (Kd.R_newM (M := fun k_ => (w.heap.size ≤ k_)) ho18 (below_size (oB HB)) (fun k_ h_ => h_)) (below_size (oB HB))) (o1_ (below_step (oB HB) hb)))
           clear aD HB
           obtain ⟨aD, aA, HB⟩ := n_
           clear hb ho18
           refine hK.out _ _ (((HB.out.cell (World.block_lt_of_cell? w _ hw381_0)).trans hw381_0)) (fun hHeld => ?_)
           clear hK K
           refine norm_ (a' := ?_) ?_ ?_
           rotate_left
           ·show Act.put _ (some 42) _ = _
            exact oT
           refine one_ (i := 0) (N := some 36) #[true, true, false, true, true, true, true, false, false] rfl rfl (one_of HT_.out oK) oD (fun K hK => ?_)
           refine Kd.R_lit_step (Kd.int .u8) _ 5 ?hg (N := 36) ?hd (xs := ([] : List Int)) (inner := []) (ok := fun _ => True) (okp := fun _ => True) ?hr ?hp (fun _ hk => hk) trivial (Below.refl _ _) (Nat.le_refl _) (by simp) ?_; (case hd => rfl); (case hg => rfl); (case hr => first | (go_simp; done) | (go_simp; rfl)); (case hp => exact (Reps.none _ _))
           intro aP cT ho20 hb hg_ hnew_
           clear hg_ hnew_
           (first | rw [← aQ.out] at ho20 | (simp only [Int.reduceToNat] at ho20; rw [← aQ.out] at ho20))
           have n_ := o2_ (Kd.V_elder' (oV aD) (Kd.R_base ho20) hb) (o2_ (Kd.R_elder' (oR aA) (Kd.R_base ho20) hb) (o2_ (Kd.R_lower (Kd.R_new' (Kd.R_newM (M := fun k_ => (w.heap.size ≤ k_)) ho20 (below_size (oB HB)) (fun k_ h_ => h_)) (Kd.R_lt (oR aA))) (below_size (oB HB))) (o1_ (below_step (oB HB) hb))))
           clear aD aA HB
           obtain ⟨aD, aA, aI, HB⟩ := n_
           clear hb ho20
           refine hK.out _ _ (((HB.out.cell (World.block_lt_of_cell? w _ hw381_0)).trans hw381_0)) (fun hHeld => ?_)
           clear hK K
           refine norm_ (a' := ?_) ?_ ?_
           rotate_left
           ·show Act.put _ (some 36) _ = _
            exact oT
           refine one_ (i := 2) (N := some 38) #[true, true, true, true, true, true, true, false, false] rfl rfl (one_of HT_.out oK) oD (fun K hK => ?_)
           refine Kd.R_append_rows_step (Kd.int .u8) (w0 := w) w.heap.size (by rfl) (.tmp 36) (.tmp 37) 24 5 (.int .u8 0) 1 rfl Try.underlying24 info5 rfl oD (by omega) aP aK l1 _ _ _ (fun k_ => (w.heap.size ≤ k_) ∧ some k_ ≠ (aJ : Value).ownBlock) (fun _ => False) rfl rfl ?aO ?aR (fun _ _ h => h) (fun _ h => h.elim) ?aF ?aB ?aS ?aL ?_
           (case aR => repeat (first | exact (Kd.C_below bX.out HB.out) | (with_reducible refine Kd.C_alloc ?_ _) | (with_reducible refine Kd.C_drewN ?_ _) | (with_reducible refine Kd.C_drew ?_)))
           (case aB => exact (oB HB))
           (case aF => exact (fun k_ hk => ⟨(Nat.le_trans (below_size (oB HB)) hk), Kd.fresh' (Kd.R_lt (oR aA)) k_ hk⟩))
           (case aO => exact (by (with_reducible repeat (first | apply Kd.R_alloc | apply Kd.R_drewN | apply Kd.R_drew)); exact Kd.R_mono aI.out (fun _ hk => ⟨hk.1.1, hk.2⟩)))
           (case aS => exact (below_size (oB HB)))
           (case aL => have := LMc13.out; omega)
           intro aM dB ho hb hg hat
           rw [← aT.out] at ho
           have n_ := o2_ (Kd.V_afterv (ok := (fun k_ => (ok0_ k_) ∧ some k_ ≠ (aJ : Value).ownBlock)) (oV aD) hg hat) (o2_ (Kd.R_after (ok := (fun k_ => (w.heap.size ≤ k_))) (by (with_reducible repeat (first | apply Kd.R_alloc | apply Kd.R_drewN | apply Kd.R_drew)); exact Kd.R_mono aA.out (fun _ hk => ⟨hk.1.1, hk.2⟩)) hg hat) (o2_ (hb) (o1_ (ho))))
           clear aD aA HB aI
           obtain ⟨aD, aA, HB, aG⟩ := n_
           clear ho hb hg hat
           refine hK.out _ _ (((HB.out.cell (World.block_lt_of_cell? w _ hw381_0)).trans hw381_0)) (fun hHeld => ?_)
           clear hK K
           refine norm_ (a' := ?_) ?_ ?_
           rotate_left
           ·show Act.put _ (some 38) _ = _
            exact oT
           exact norm_ (by simp only [putAll, Act.put, List.setIfInBounds_toArray, List.set_cons_zero, List.set_cons_succ]) (hCont (aP, aM, aJ) _ ⟨hHeld, (by (with_reducible repeat (first | apply Kd.V_alloc | apply Kd.V_drewN | apply Kd.V_drew)); exact Kd.V_mono aD.out (fun _ hk => ⟨hk.1.1, ⟨hk.2, hk.1.2⟩⟩)), (oR aG), (oR aA), (oB HB)⟩)
         rintro ⟨aP, aM, aJ⟩ bV ⟨hS_, h0_, h1_, h2_, h3_⟩
         have cO : Aside0 (Kd.V (Kd.slice 5 (Kd.int .u8)) 24 bV w.heap.size (fun k_ => (ok0_ k_) ∧ some k_ ≠ (aM : Value).ownBlock ∧ some k_ ≠ (aJ : Value).ownBlock) (.slice A0 l0.length c0) l0) := ⟨h0_⟩
         have cP : Aside0 (Kd.R (Kd.int .u8) 5 bV w.heap.size (fun k_ => (w.heap.size ≤ k_) ∧ some k_ ≠ (aJ : Value).ownBlock) aM aH) := ⟨h1_⟩
         have cQ : Aside0 (Kd.R (Kd.int .u8) 5 bV w.heap.size (fun k_ => (w.heap.size ≤ k_) ∧ some k_ ≠ (aM : Value).ownBlock) aJ aC) := ⟨h2_⟩
         have cR : Aside0 (Below w.heap.size w bV) := ⟨h3_⟩
         clear aD
         clear HB
         clear h0_ h1_ h2_ h3_
         have aD := cO
         have aG := cP
         have aA := cQ
         have HB := cR
         clear cO cP cQ cR
         have hHeld : bV.cell? aU = some (.int .u8 (rd l1 0)) := hS_
         obtain ⟨cD, cG, bU⟩ := Kd.R_slice aA.out
         (first | subst bU | (injection bU with f1_ f2_ f3_; have f4_ := f1_.symm; have f5_ := f3_.symm; clear f1_ f2_ f3_; subst f4_; subst f5_))
         refine norm_ (a' := ?_) ?_ ?_
         rotate_left
         ·simp only [putAll, Act.put, List.setIfInBounds_toArray, List.set_cons_zero, List.set_cons_succ]
          rfl
         refine one_ (i := 7) (N := some 43) #[true, true, true, true, true, true, true, true, false] rfl rfl (one_of HT_.out oK) oD (fun K hK => ?_)
         refine Kd.R_append_rows_step (Kd.int .u8) (w0 := w) w.heap.size (by rfl) (.tmp 38) (.tmp 42) 24 5 (.int .u8 0) 1 rfl Try.underlying24 info5 rfl oD (by omega) aM aH aC _ _ _ (fun k_ => (w.heap.size ≤ k_) ∧ some k_ ≠ (.slice cD aC.length cG : Value).ownBlock) (fun _ => False) rfl rfl ?aO ?aR (fun _ _ h => h) (fun _ h => h.elim) ?aF ?aB ?aS ?aL ?_
         (case aR => repeat (first | exact (Kd.R_reads' aA.out).2.2 | (with_reducible refine Kd.C_alloc ?_ _) | (with_reducible refine Kd.C_drewN ?_ _) | (with_reducible refine Kd.C_drew ?_)))
         (case aB => exact (oB HB))
         (case aF => exact (fun k_ hk => ⟨(Nat.le_trans (below_size (oB HB)) hk), Kd.fresh' (Kd.R_lt (oR aA)) k_ hk⟩))
         (case aO => exact (oR aG))
         (case aS => exact (below_size (oB HB)))
         (case aL => have := LMc15.out; omega)
         intro cW dF ho hb hg hat
         rw [← bN.out] at ho
         have n_ := o2_ (hb) (o1_ (ho))
         clear HB aG
         obtain ⟨HB, bJ⟩ := n_
         clear ho hb hg hat
         refine hK.out _ _ (((HB.out.cell (World.block_lt_of_cell? w _ hw381_0)).trans hw381_0)) (fun hHeld => ?_)
         clear hK K
         refine norm_ (a' := ?_) ?_ ?_
         rotate_left
         ·show Act.put _ (some 43) _ = _
          exact oT
         refine pure_ (i := 8) (N := some 6) (v := ?_) (a' := ?_) #[true, true, true, true, true, true, true, true, true] rfl rfl (any_of HT_.out oK) (fun _ _ _ h => h) (Or.inl ⟨by rfl, ?_⟩) ?_ ?_
         rotate_left
         ·intro w'
          go_simp
          with_reducible rfl
         rotate_left
         ·exact oT
         refine done_ (done_of HT_.out oK) ?_
         try go_wp2
         go_ret
         exact ⟨_, by first | rfl | (simp [errW_none, errW_some] <;> rfl) | (simp [*, errW_none, errW_some] <;> rfl), Kd.V_mono (Kd.R_V (by (with_reducible repeat (first | apply Kd.R_alloc | apply Kd.R_drewN | apply Kd.R_drew)); exact Kd.R_mono bJ.out (fun _ hk => hk.1))) (fun k_ hk => by first | exact ⟨(.inr (hk.1)), hk.2⟩ | exact (.inr (hk))), oB HB⟩
        ·rw [if_neg cB] at H
         exact absurd H (by simp)
       ·rw [if_neg cA] at H
        exact absurd H (by simp)
      ·rw [if_neg bZ] at H
       exact absurd H (by simp)
     ·rw [if_neg bH] at H
      have bS : decide (a2 < 512) = false := decide_eq_false bH
      clear bH
      obtain ⟨y388, hy388⟩ : ∃ y_ : List Int, y_ = (([] : List Int)) := ⟨_, rfl⟩
      replace H : (some y388) = some r := by first | (rw [hy388]; with_reducible exact H) | (have H2_ := (Option.bind_some _ _).symm.trans H; rw [hy388]; with_reducible exact H2_) | (have H2_ := (Option.bind_some _ _).symm.trans H; with_reducible exact H2_) | with_reducible exact H | (rw [hy388]; exact H) | exact H
      have bA := Aside0.mk hy388
      clear hy388
      obtain rfl := Option.some.inj H
      go_enter Try.func49, Try.ntmps49
      go_wp2_with (first | ((with_reducible refine gate_dst (N := 44) rfl ?_); (try (refine gate_guard (by rfl) ?_; dsimp only)); refine Kd.R_lit (Kd.int .u8) _ 5 ?hg (N := 44) ?hd (xs := ([] : List Int)) (inner := []) (ok := fun _ => True) (okp := fun _ => True) ?hr ?hp (fun _ hk => hk) trivial (Below.refl _ _) (Nat.le_refl _) (by simp) ?_; (case hd => rfl); (case hg => rfl); (case hr => first | (go_simp; done) | (go_simp; rfl)); (case hp => exact (Reps.none _ _)); intro cX dG ho26 hb hg_ hnew_; clear hg_ hnew_; (first | rw [← bA.out] at ho26 | (simp only [Int.reduceToNat] at ho26; rw [← bA.out] at ho26)); have n_ := o2_ (Kd.R_lower (Kd.R_newM (M := fun k_ => (w.heap.size ≤ k_)) ho26 (below_size (oB HB)) (fun k_ h_ => h_)) (below_size (oB HB))) (o1_ (below_step (oB HB) hb)); clear HB; obtain ⟨bK, HB⟩ := n_; clear hb ho26))
      go_ret
      exact ⟨_, by first | rfl | (simp [errW_none, errW_some] <;> rfl) | (simp [*, errW_none, errW_some] <;> rfl), Kd.V_mono (Kd.R_V (by (with_reducible repeat (first | apply Kd.R_alloc | apply Kd.R_drewN | apply Kd.R_drew)); exact Kd.R_mono bK.out (fun _ hk => hk.1))) (fun k_ hk => by first | exact ⟨(.inr (hk.1)), hk.2⟩ | exact (.inr (hk))), oB HB⟩
    ·rw [if_neg bG] at H
     have bQ : decide (0 < (l1.length : Int)) = false := decide_eq_false bG
     have bR : decide (0 < l1.length) = false := decide_eq_false (by omega)
     clear bG
     obtain ⟨y391, hy391⟩ : ∃ y_ : List Int, y_ = (([] : List Int)) := ⟨_, rfl⟩
     replace H : (some y391) = some r := by first | (rw [hy391]; with_reducible exact H) | (have H2_ := (Option.bind_some _ _).symm.trans H; rw [hy391]; with_reducible exact H2_) | (have H2_ := (Option.bind_some _ _).symm.trans H; with_reducible exact H2_) | with_reducible exact H | (rw [hy391]; exact H) | exact H
     have bB := Aside0.mk hy391
     clear hy391
     obtain rfl := Option.some.inj H
     go_enter Try.func49, Try.ntmps49
     go_wp2_with (first | ((with_reducible refine gate_dst (N := 44) rfl ?_); (try (refine gate_guard (by rfl) ?_; dsimp only)); refine Kd.R_lit (Kd.int .u8) _ 5 ?hg (N := 44) ?hd (xs := ([] : List Int)) (inner := []) (ok := fun _ => True) (okp := fun _ => True) ?hr ?hp (fun _ hk => hk) trivial (Below.refl _ _) (Nat.le_refl _) (by simp) ?_; (case hd => rfl); (case hg => rfl); (case hr => first | (go_simp; done) | (go_simp; rfl)); (case hp => exact (Reps.none _ _)); intro cY dH ho28 hb hg_ hnew_; clear hg_ hnew_; (first | rw [← bB.out] at ho28 | (simp only [Int.reduceToNat] at ho28; rw [← bB.out] at ho28)); have n_ := o2_ (Kd.R_lower (Kd.R_newM (M := fun k_ => (w.heap.size ≤ k_)) ho28 (below_size (oB HB)) (fun k_ h_ => h_)) (below_size (oB HB))) (o1_ (below_step (oB HB) hb)); clear HB; obtain ⟨bL, HB⟩ := n_; clear hb ho28))
     go_ret
     exact ⟨_, by first | rfl | (simp [errW_none, errW_some] <;> rfl) | (simp [*, errW_none, errW_some] <;> rfl), Kd.V_mono (Kd.R_V (by (with_reducible repeat (first | apply Kd.R_alloc | apply Kd.R_drewN | apply Kd.R_drew)); exact Kd.R_mono bL.out (fun _ hk => hk.1))) (fun k_ hk => by first | exact ⟨(.inr (hk.1)), hk.2⟩ | exact (.inr (hk))), oB HB⟩
   ·rw [if_neg bD] at H
    have bO : ((wrap64 (a2 - 257)) == (l0.length : Int)) = false := beq_eq_false_iff_ne.mpr bD
    have bP : ((wrap64 (a2 - 257)) != (l0.length : Int)) = true := bne_iff_ne.mpr bD
    obtain ⟨y394, hy394⟩ : ∃ y_ : List Int, y_ = (([] : List Int)) := ⟨_, rfl⟩
    replace H : (some y394) = some r := by first | (rw [hy394]; with_reducible exact H) | (have H2_ := (Option.bind_some _ _).symm.trans H; rw [hy394]; with_reducible exact H2_) | (have H2_ := (Option.bind_some _ _).symm.trans H; with_reducible exact H2_) | with_reducible exact H | (rw [hy394]; exact H) | exact H
    have bC := Aside0.mk hy394
    clear hy394
    obtain rfl := Option.some.inj H
    go_enter Try.func49, Try.ntmps49
    go_wp2_with (first | ((with_reducible refine gate_dst (N := 44) rfl ?_); (try (refine gate_guard (by rfl) ?_; dsimp only)); refine Kd.R_lit (Kd.int .u8) _ 5 ?hg (N := 44) ?hd (xs := ([] : List Int)) (inner := []) (ok := fun _ => True) (okp := fun _ => True) ?hr ?hp (fun _ hk => hk) trivial (Below.refl _ _) (Nat.le_refl _) (by simp) ?_; (case hd => rfl); (case hg => rfl); (case hr => first | (go_simp; done) | (go_simp; rfl)); (case hp => exact (Reps.none _ _)); intro cZ dI ho30 hb hg_ hnew_; clear hg_ hnew_; (first | rw [← bC.out] at ho30 | (simp only [Int.reduceToNat] at ho30; rw [← bC.out] at ho30)); have n_ := o2_ (Kd.R_lower (Kd.R_newM (M := fun k_ => (w.heap.size ≤ k_)) ho30 (below_size (oB HB)) (fun k_ h_ => h_)) (below_size (oB HB))) (o1_ (below_step (oB HB) hb)); clear HB; obtain ⟨bM, HB⟩ := n_; clear hb ho30))
    go_ret
    exact ⟨_, by first | rfl | (simp [errW_none, errW_some] <;> rfl) | (simp [*, errW_none, errW_some] <;> rfl), Kd.V_mono (Kd.R_V (by (with_reducible repeat (first | apply Kd.R_alloc | apply Kd.R_drewN | apply Kd.R_drew)); exact Kd.R_mono bM.out (fun _ hk => hk.1))) (fun k_ hk => by first | exact ⟨(.inr (hk.1)), hk.2⟩ | exact (.inr (hk))), oB HB⟩

set_option maxHeartbeats 8000000 in
set_option maxRecDepth 100000 in
theorem spec_PakGet.calls (k : Nat) (A0 : Option Addr) (c0 : Nat) (l0 : List Int) (r1 : List Int) (r2 : Bool) (w : World) (hr0 : Kd.C (Kd.int .u8) w A0 l0.length l0) (eS : l0.length ≤ c0) (h : spec_PakGet.f k l0 = some (r1, r2)) :
  Calls Try.prog 28 #[.slice A0 l0.length c0] w fun e w' => ∃ eZ : Value, e = .returned (.tuple #[eZ, .bool r2]) ∧ Kd.R (Kd.int .u8) 5 w' w.heap.size (fun _ => True) eZ r1 ∧ Below w.heap.size w w' := by
 have cR := Aside0.mk hr0
 have cP := Aside0.mk eS
 clear hr0 eS
 have HB := Aside0.mk (Below.refl w.heap.size w)
 have H : (spec_PakGet.l0 k l0 (([] : List Int)) (([] : List (List Int))) (([] : List Int)) 0) = some (r1, r2) := h
 clear h
 obtain ⟨y397, hy397⟩ : ∃ y_ : List Int, y_ = (([] : List Int)) := ⟨_, rfl⟩
 replace H : (spec_PakGet.l0 k l0 y397 (([] : List (List Int))) (([] : List Int)) 0) = some (r1, r2) := by first | (rw [hy397]; with_reducible exact H) | (have H2_ := (Option.bind_some _ _).symm.trans H; rw [hy397]; with_reducible exact H2_) | (have H2_ := (Option.bind_some _ _).symm.trans H; with_reducible exact H2_) | with_reducible exact H | (rw [hy397]; exact H) | exact H
 have bZ := Aside0.mk hy397
 clear hy397
 obtain ⟨y400, hy400⟩ : ∃ y_ : List (List Int), y_ = (([] : List (List Int))) := ⟨_, rfl⟩
 replace H : (spec_PakGet.l0 k l0 y397 y400 (([] : List Int)) 0) = some (r1, r2) := by first | (rw [hy400]; with_reducible exact H) | (have H2_ := (Option.bind_some _ _).symm.trans H; rw [hy400]; with_reducible exact H2_) | (have H2_ := (Option.bind_some _ _).symm.trans H; with_reducible exact H2_) | with_reducible exact H | (rw [hy400]; exact H) | exact H
 have cA := Aside0.mk hy400
 clear hy400
 obtain ⟨y403, hy403⟩ : ∃ y_ : List Int, y_ = (([] : List Int)) := ⟨_, rfl⟩
 replace H : (spec_PakGet.l0 k l0 y397 y400 y403 0) = some (r1, r2) := by first | (rw [hy403]; with_reducible exact H) | (have H2_ := (Option.bind_some _ _).symm.trans H; rw [hy403]; with_reducible exact H2_) | (have H2_ := (Option.bind_some _ _).symm.trans H; with_reducible exact H2_) | with_reducible exact H | (rw [hy403]; exact H) | exact H
 have cB := Aside0.mk hy403
 clear hy403
 have H' := Aside0.mk H
 clear H
 go_enter Try.func28, Try.ntmps28
 go_wp2_with (first | ((with_reducible refine gate_dst (N := 11) rfl ?_); (try (refine gate_guard (by rfl) ?_; dsimp only)); refine Kd.R_lit (Kd.int .u8) _ 5 ?hg (N := 11) ?hd (xs := ([] : List Int)) (inner := []) (ok := fun _ => True) (okp := fun _ => True) ?hr ?hp (fun _ hk => hk) trivial (Below.refl _ _) (Nat.le_refl _) (by simp) ?_; (case hd => rfl); (case hg => rfl); (case hr => first | (go_simp; done) | (go_simp; rfl)); (case hp => exact (Reps.none _ _)); intro cT w2 ho3 hb hg_ hnew_; clear hg_ hnew_; (first | rw [← bZ.out] at ho3 | (simp only [Int.reduceToNat] at ho3; rw [← bZ.out] at ho3)); have n_ := o2_ (Kd.R_lower ho3 (below_size (oB HB))) (o1_ (below_step (oB HB) hb)); clear HB; obtain ⟨aY, HB⟩ := n_; clear hb ho3) | ((with_reducible refine gate_dst (N := 12) rfl ?_); (try (refine gate_guard (by rfl) ?_; dsimp only)); refine Kd.N_lit (Kd.slice 5 (Kd.int .u8)) _ 24 ?hg (N' := 12) ?hd (xs := ([] : List (List Int))) (inner := []) (ok := (fun k_ => some k_ ≠ (cT : Value).ownBlock)) (okp := (fun k_ => some k_ ≠ (cT : Value).ownBlock)) ?hr ?hp (fun _ hk => hk) ((show ∀ k_, w2.heap.size ≤ k_ → (fun k_ => some k_ ≠ (cT : Value).ownBlock) k_ from fun k_ hk => Kd.fresh' (Kd.R_lt (oR aY)) k_ hk) _ (Nat.le_refl _)) (Below.refl _ _) (Nat.le_refl _) (by simp) ?_; (case hd => rfl); (case hg => rfl); (case hr => first | (go_simp; done) | (go_simp; rfl)); (case hp => exact (Reps.none _ _)); intro fP w4 ho5 hb hg_ hnew_; clear hg_ hnew_; (first | rw [← cA.out] at ho5 | (simp only [Int.reduceToNat] at ho5; rw [← cA.out] at ho5)); have n_ := o2_ (Kd.R_below (oR aY) hb) (o2_ (Kd.N_lower ho5 (below_size (oB HB))) (o1_ (below_step (oB HB) hb))); clear aY HB; obtain ⟨aY, bP, HB⟩ := n_; clear hb ho5) | ((with_reducible refine gate_dst (N := 13) rfl ?_); (try (refine gate_guard (by rfl) ?_; dsimp only)); refine Kd.R_lit (Kd.int .u8) _ 5 ?hg (N := 13) ?hd (xs := ([] : List Int)) (inner := []) (ok := fun _ => True) (okp := fun _ => True) ?hr ?hp (fun _ hk => hk) trivial (Below.refl _ _) (Nat.le_refl _) (by simp) ?_; (case hd => rfl); (case hg => rfl); (case hr => first | (go_simp; done) | (go_simp; rfl)); (case hp => exact (Reps.none _ _)); intro fQ w6 ho7 hb hg_ hnew_; clear hg_ hnew_; (first | rw [← cB.out] at ho7 | (simp only [Int.reduceToNat] at ho7; rw [← cB.out] at ho7)); have n_ := o2_ (Kd.R_elder' (oR aY) (Kd.R_base ho7) hb) (o2_ (Kd.N_elder' (by (with_reducible repeat (first | apply Kd.N_alloc | apply Kd.N_drewN | apply Kd.N_drew)); exact bP.out) (Kd.R_base ho7) hb) (o2_ (Kd.R_lower (Kd.R_new' ho7 (Kd.R_lt (oR aY))) (below_size (oB HB))) (o1_ (below_step (oB HB) hb)))); clear aY bP HB; obtain ⟨aY, bP, dB, HB⟩ := n_; clear hb ho7))
 go_loopg [4, 5, 6, 7] k (fun kq v4 v5 v6 v7 w' => ∃ (bH : List Int) (aH : List (List Int)) (aN : List Int) (aI : Int), v7 = .int .i64 aI ∧ Aside0 (spec_PakGet.l0 kq l0 bH aH aN aI = some (r1, r2)) ∧ Aside0 (kq ≤ k) ∧ Aside0 (Kd.R (Kd.int .u8) 5 w' w.heap.size (fun _ => True) v4 bH) ∧ Aside0 (Kd.N (Kd.slice 5 (Kd.int .u8)) 24 w' w.heap.size (fun k_ => some k_ ≠ (v4 : Value).ownBlock) v5 aH) ∧ Aside0 (Kd.V (Kd.int .u8) 5 w' w.heap.size (fun k_ => some k_ ≠ (v4 : Value).ownBlock ∧ some k_ ≠ (v5 : Value).ownBlock) v6 aN) ∧ Aside0 (Below w.heap.size w w'))
 case atStart => exact ⟨(y397), (y400), (y403), (0), oU, H', ⟨Nat.le_refl _⟩, ⟨(by (with_reducible repeat (first | apply Kd.R_alloc | apply Kd.R_drewN | apply Kd.R_drew)); exact Kd.R_mono aY.out (fun _ hk => trivial))⟩, ⟨(by (with_reducible repeat (first | apply Kd.N_alloc | apply Kd.N_drewN | apply Kd.N_drew)); exact Kd.N_mono bP.out (fun _ hk => hk.1))⟩, ⟨(by (with_reducible repeat (first | apply Kd.V_alloc | apply Kd.V_drewN | apply Kd.V_drew)); exact pg_start dB.out (fun _ hk => hk.2) bP.out (fun _ hk => hk.2))⟩, ⟨(oB HB)⟩⟩
 case round =>
  clear H'
  try clear c2
  try clear p2
  obtain ⟨bH, aH, aN, aI, rfl, HA, HK1, aK, aD, aQ, HB⟩ := hrel
  cases gk with
  | zero => exact nomatch (show none = some _ from HA.out)
  | succ k1 =>
   have H := HA.out
   clear HA
   simp only [spec_PakGet.l0] at H
   by_cases c8 : aI < 3200
   ·rw [if_pos c8] at H
    have dQ : decide (aI < 3200) = true := decide_eq_true c8
    clear c8
    replace H := Option.bind_eq_some_iff.mp H
    obtain ⟨⟨bE, eM⟩, eP, H⟩ := H
    (try dsimp only at H)
    have A9 := Aside0.mk eP
    clear eP
    by_cases dK : eM = true
    ·subst dK
     rw [if_pos rfl] at H
     by_cases cI : bE = 256
     ·rw [if_pos cI] at H
      have cJ : (bE == 256) = true := beq_iff_eq.mpr cI
      have cK : (bE != 256) = false := bne_eq_false_iff_eq.mpr cI
      clear cI
      by_cases cL : (wrap64 (Int.tdiv (wrap64 ((wrap64 (aI + 9)) + 7)) 8)) = (l0.length : Int)
      ·rw [if_pos cL] at H
       have cM : ((wrap64 (Int.tdiv (wrap64 ((wrap64 (aI + 9)) + 7)) 8)) == (l0.length : Int)) = true := beq_iff_eq.mpr cL
       have cN : ((wrap64 (Int.tdiv (wrap64 ((wrap64 (aI + 9)) + 7)) 8)) != (l0.length : Int)) = false := bne_eq_false_iff_eq.mpr cL
       clear cL
       replace H := Option.bind_eq_some_iff.mp H
       obtain ⟨cS, cX, H⟩ := H
       (try dsimp only at H)
       have eO := Aside0.mk cX
       clear cX
       by_cases dL : cS = true
       ·subst dL
        rw [if_pos rfl] at H
        simp only [Option.some.injEq, Prod.mk.injEq] at H
        obtain ⟨rfl, rfl⟩ := H
        go_wp2_with (first | ((with_reducible refine gate_callee (f := 47) rfl ?_); refine goesL_ (some 21) rfl rfl Try.func47 oK rfl #[.slice A0 l0.length c0, .int .i64 aI, .int .i64 9] rfl oA ?_; (with_reducible refine (spec_BitGet.calls k1 _ _ l0 aI 9 bE true _ ?side1 ?side2 A9.out).mono ?_); (case side1 => repeat (first | exact (Kd.C_below cR.out HB.out) | (with_reducible refine Kd.C_alloc ?_ _) | (with_reducible refine Kd.C_drewN ?_ _) | (with_reducible refine Kd.C_drew ?_))); (case side2 => exact cP.out); rintro e w' ⟨rfl, ⟨nd, rfl⟩⟩; refine ⟨_, rfl, ?_⟩) | (go_at_call 48; (with_reducible refine (spec_l4Rest.calls k1 _ _ l0 (wrap64 (aI + 9)) true _ ?side1 ?side2 eO.out).mono ?_); (case side1 => repeat (first | exact (Kd.C_below cR.out (oB HB)) | (with_reducible refine Kd.C_alloc ?_ _) | (with_reducible refine Kd.C_drewN ?_ _) | (with_reducible refine Kd.C_drew ?_))); (case side2 => exact cP.out); rintro e w' ⟨rfl, ⟨nd, rfl⟩⟩))
        go_ret2
        exact ⟨_, by first | rfl | (simp [errW_none, errW_some] <;> rfl) | (simp [*, errW_none, errW_some] <;> rfl), by (with_reducible repeat (first | apply Kd.R_alloc | apply Kd.R_drewN | apply Kd.R_drew)); exact aK.out, oB HB⟩
       ·replace dL := Bool.eq_false_iff.mpr dL
        subst dL
        rw [if_neg (show ¬ (false = true) by decide)] at H
        obtain ⟨y415, hy415⟩ : ∃ y_ : List Int, y_ = (([] : List Int)) := ⟨_, rfl⟩
        replace H : (some (y415, false)) = some (r1, r2) := by first | (rw [hy415]; with_reducible exact H) | (have H2_ := (Option.bind_some _ _).symm.trans H; rw [hy415]; with_reducible exact H2_) | (have H2_ := (Option.bind_some _ _).symm.trans H; with_reducible exact H2_) | with_reducible exact H | (rw [hy415]; exact H) | exact H
        have cE := Aside0.mk hy415
        clear hy415
        simp only [Option.some.injEq, Prod.mk.injEq] at H
        obtain ⟨rfl, rfl⟩ := H
        go_wp2_with (first | ((with_reducible refine gate_callee (f := 47) rfl ?_); refine goesL_ (some 21) rfl rfl Try.func47 oK rfl #[.slice A0 l0.length c0, .int .i64 aI, .int .i64 9] rfl oA ?_; (with_reducible refine (spec_BitGet.calls k1 _ _ l0 aI 9 bE true _ ?side1 ?side2 A9.out).mono ?_); (case side1 => repeat (first | exact (Kd.C_below cR.out HB.out) | (with_reducible refine Kd.C_alloc ?_ _) | (with_reducible refine Kd.C_drewN ?_ _) | (with_reducible refine Kd.C_drew ?_))); (case side2 => exact cP.out); rintro e w' ⟨rfl, ⟨nd, rfl⟩⟩; refine ⟨_, rfl, ?_⟩) | (go_at_call 48; (with_reducible refine (spec_l4Rest.calls k1 _ _ l0 (wrap64 (aI + 9)) false _ ?side1 ?side2 eO.out).mono ?_); (case side1 => repeat (first | exact (Kd.C_below cR.out (oB HB)) | (with_reducible refine Kd.C_alloc ?_ _) | (with_reducible refine Kd.C_drewN ?_ _) | (with_reducible refine Kd.C_drew ?_))); (case side2 => exact cP.out); rintro e w' ⟨rfl, ⟨nd, rfl⟩⟩) | ((with_reducible refine gate_dst (N := 43) rfl ?_); (try (refine gate_guard (by rfl) ?_; dsimp only)); refine Kd.R_lit (Kd.int .u8) _ 5 ?hg (N := 43) ?hd (xs := ([] : List Int)) (inner := []) (ok := fun _ => True) (okp := fun _ => True) ?hr ?hp (fun _ hk => hk) trivial (Below.refl _ _) (Nat.le_refl _) (by simp) ?_; (case hd => rfl); (case hg => rfl); (case hr => first | (go_simp; done) | (go_simp; rfl)); (case hp => exact (Reps.none _ _)); intro fT gE ho16 hb hg_ hnew_; clear hg_ hnew_; (first | rw [← cE.out] at ho16 | (simp only [Int.reduceToNat] at ho16; rw [← cE.out] at ho16)); have n_ := o2_ (Kd.R_elder' (oR aK) (Kd.R_base ho16) hb) (o2_ (Kd.N_elder' (by (with_reducible repeat (first | apply Kd.N_alloc | apply Kd.N_drewN | apply Kd.N_drew)); exact aD.out) (Kd.R_base ho16) hb) (o2_ (Kd.V_elder' (oV aQ) (Kd.R_base ho16) hb) (o2_ (Kd.R_lower (Kd.R_new' ho16 (Kd.R_lt (oR aK))) (below_size (oB HB))) (o1_ (below_step (oB HB) hb))))); clear aK aD aQ HB; obtain ⟨aK, aD, aQ, dE, HB⟩ := n_; clear hb ho16))
        go_ret2
        exact ⟨_, by first | rfl | (simp [errW_none, errW_some] <;> rfl) | (simp [*, errW_none, errW_some] <;> rfl), by (with_reducible repeat (first | apply Kd.R_alloc | apply Kd.R_drewN | apply Kd.R_drew)); exact Kd.R_mono dE.out (fun _ hk => trivial), oB HB⟩
      ·rw [if_neg cL] at H
       have cM : ((wrap64 (Int.tdiv (wrap64 ((wrap64 (aI + 9)) + 7)) 8)) == (l0.length : Int)) = false := beq_eq_false_iff_ne.mpr cL
       have cN : ((wrap64 (Int.tdiv (wrap64 ((wrap64 (aI + 9)) + 7)) 8)) != (l0.length : Int)) = true := bne_iff_ne.mpr cL
       obtain ⟨y418, hy418⟩ : ∃ y_ : List Int, y_ = (([] : List Int)) := ⟨_, rfl⟩
       replace H : (some (y418, false)) = some (r1, r2) := by first | (rw [hy418]; with_reducible exact H) | (have H2_ := (Option.bind_some _ _).symm.trans H; rw [hy418]; with_reducible exact H2_) | (have H2_ := (Option.bind_some _ _).symm.trans H; with_reducible exact H2_) | with_reducible exact H | (rw [hy418]; exact H) | exact H
       have cF := Aside0.mk hy418
       clear hy418
       simp only [Option.some.injEq, Prod.mk.injEq] at H
       obtain ⟨rfl, rfl⟩ := H
       go_wp2_with (first | ((with_reducible refine gate_callee (f := 47) rfl ?_); refine goesL_ (some 21) rfl rfl Try.func47 oK rfl #[.slice A0 l0.length c0, .int .i64 aI, .int .i64 9] rfl oA ?_; (with_reducible refine (spec_BitGet.calls k1 _ _ l0 aI 9 bE true _ ?side1 ?side2 A9.out).mono ?_); (case side1 => repeat (first | exact (Kd.C_below cR.out HB.out) | (with_reducible refine Kd.C_alloc ?_ _) | (with_reducible refine Kd.C_drewN ?_ _) | (with_reducible refine Kd.C_drew ?_))); (case side2 => exact cP.out); rintro e w' ⟨rfl, ⟨nd, rfl⟩⟩; refine ⟨_, rfl, ?_⟩) | ((with_reducible refine gate_dst (N := 43) rfl ?_); (try (refine gate_guard (by rfl) ?_; dsimp only)); refine Kd.R_lit (Kd.int .u8) _ 5 ?hg (N := 43) ?hd (xs := ([] : List Int)) (inner := []) (ok := fun _ => True) (okp := fun _ => True) ?hr ?hp (fun _ hk => hk) trivial (Below.refl _ _) (Nat.le_refl _) (by simp) ?_; (case hd => rfl); (case hg => rfl); (case hr => first | (go_simp; done) | (go_simp; rfl)); (case hp => exact (Reps.none _ _)); intro fU gF ho18 hb hg_ hnew_; clear hg_ hnew_; (first | rw [← cF.out] at ho18 | (simp only [Int.reduceToNat] at ho18; rw [← cF.out] at ho18)); have n_ := o2_ (Kd.R_elder' (oR aK) (Kd.R_base ho18) hb) (o2_ (Kd.N_elder' (by (with_reducible repeat (first | apply Kd.N_alloc | apply Kd.N_drewN | apply Kd.N_drew)); exact aD.out) (Kd.R_base ho18) hb) (o2_ (Kd.V_elder' (oV aQ) (Kd.R_base ho18) hb) (o2_ (Kd.R_lower (Kd.R_new' ho18 (Kd.R_lt (oR aK))) (below_size (oB HB))) (o1_ (below_step (oB HB) hb))))); clear aK aD aQ HB; obtain ⟨aK, aD, aQ, dF, HB⟩ := n_; clear hb ho18))
       go_ret2
       exact ⟨_, by first | rfl | (simp [errW_none, errW_some] <;> rfl) | (simp [*, errW_none, errW_some] <;> rfl), by (with_reducible repeat (first | apply Kd.R_alloc | apply Kd.R_drewN | apply Kd.R_drew)); exact Kd.R_mono dF.out (fun _ hk => trivial), oB HB⟩
     ·rw [if_neg cI] at H
      have cJ : (bE == 256) = false := beq_eq_false_iff_ne.mpr cI
      have cK : (bE != 256) = true := bne_iff_ne.mpr cI
      replace H := Option.bind_eq_some_iff.mp H
      obtain ⟨aE, cY, H⟩ := H
      (try dsimp only at H)
      have fB := Aside0.mk cY
      clear cY
      have cQ := Aside0.mk H
      clear H
      go_upto_region 15 with (first | ((with_reducible refine gate_callee (f := 47) rfl ?_); refine goesL_ (some 21) rfl rfl Try.func47 oK rfl #[.slice A0 l0.length c0, .int .i64 aI, .int .i64 9] rfl oA ?_; (with_reducible refine (spec_BitGet.calls k1 _ _ l0 aI 9 bE true _ ?side1 ?side2 A9.out).mono ?_); (case side1 => repeat (first | exact (Kd.C_below cR.out HB.out) | (with_reducible refine Kd.C_alloc ?_ _) | (with_reducible refine Kd.C_drewN ?_ _) | (with_reducible refine Kd.C_drew ?_))); (case side2 => exact cP.out); rintro e w' ⟨rfl, ⟨nd, rfl⟩⟩; refine ⟨_, rfl, ?_⟩; obtain ⟨bA, bC, eE⟩ := Kd.N_slice aD.out; subst eE; obtain ⟨cZ, dR, eF⟩ := Kd.V_slice aQ.out; subst eF) | ((with_reducible refine gate_callee (f := 49) rfl ?_); refine goesL_ (some 48) rfl rfl Try.func49 oK rfl #[.slice bA aH.length bC, .slice cZ aN.length dR, .int .i64 bE] rfl oA ?_; (with_reducible refine (pg_l4Bytes w.heap.size (fun k_ => some k_ ≠ (u4 : Value).ownBlock) (fun k_ => some k_ ≠ (u4 : Value).ownBlock ∧ some k_ ≠ (.slice bA aH.length bC : Value).ownBlock) _ _ aH _ _ aN bE aE _ (fun _ h1 h2 => ⟨h1, h2⟩) ?side1 ?side2 ?side3 fB.out).mono ?_); (case side1 => exact aD.out); (case side2 => repeat (first | exact (Kd.V_reads' aQ.out).2.2 | (with_reducible refine Kd.C_alloc ?_ _) | (with_reducible refine Kd.C_drewN ?_ _) | (with_reducible refine Kd.C_drew ?_))); (case side3 => exact (Kd.V_reads' aQ.out).2.1); rintro e gG ⟨eN, rfl, ho0, hb⟩; refine ⟨_, rfl, ?_⟩; have n_ := o2_ (Kd.R_below (oR aK) hb) (o2_ (Kd.N_below (by (with_reducible repeat (first | apply Kd.N_alloc | apply Kd.N_drewN | apply Kd.N_drew)); exact aD.out) hb) (o2_ (Kd.V_below (oV aQ) hb) (o2_ (Kd.V_lower (Kd.V_mono (ok' := fun k_ => some k_ ≠ (u4 : Value).ownBlock ∧ some k_ ≠ (.slice bA aH.length bC : Value).ownBlock) ho0 (fun k_ hk_ => Or.elim hk_ (fun hs_ => hs_) (fun hn_ => ⟨Kd.fresh' (Kd.R_lt (oR aK)) k_ hn_, Kd.fresh' (Kd.N_lt aD.out) k_ hn_⟩))) (below_size (oB HB))) (o1_ (below_step (oB HB) hb))))); clear aK aD aQ HB; obtain ⟨aK, aD, aQ, bQ, HB⟩ := n_; (try clear hb); (try clear hb2); (try clear hk); (try clear hi); (try clear ho0)))
      (try simp only [Act.put, List.setIfInBounds_toArray, List.set_cons_zero, List.set_cons_succ])
      go_cut [59] (fun fZ wc => ∃ (kq : Nat) (bK : Bool), fZ = .bool bK ∧ Aside0 (spec_PakGet.j1 kq l0 bH aH aN aI aE bK = some (r1, r2)) ∧ Aside0 (kq ≤ k1) ∧ Aside0 (Kd.R (Kd.int .u8) 5 wc w.heap.size (fun _ => True) u4 bH) ∧ Aside0 (Kd.N (Kd.slice 5 (Kd.int .u8)) 24 wc w.heap.size (fun k_ => some k_ ≠ (u4 : Value).ownBlock) (.slice bA aH.length bC) aH) ∧ Aside0 (Kd.V (Kd.int .u8) 5 wc w.heap.size (fun k_ => some k_ ≠ (u4 : Value).ownBlock ∧ some k_ ≠ (.slice bA aH.length bC : Value).ownBlock) (.slice cZ aN.length dR) aN) ∧ Aside0 (Kd.V (Kd.int .u8) 5 wc w.heap.size (fun k_ => some k_ ≠ (u4 : Value).ownBlock ∧ some k_ ≠ (.slice bA aH.length bC : Value).ownBlock) eN aE) ∧ Aside0 (Below w.heap.size w wc))
      case first =>
       have H := cQ.out
       clear cQ
       by_cases bX : (aE.length : Int) = 0
       ·rw [if_pos bX] at H
        have bJ : ((aE.length : Int) == 0) = true := beq_iff_eq.mpr bX
        have cO : ((aE.length : Int) != 0) = false := bne_eq_false_iff_eq.mpr bX
        clear bX
        (first | rw [bJ] | (simp only [i64_w, i32_w]; rw [bJ]) | skip)
        have H' := Aside0.mk H
        clear H
        obtain ⟨fC, fJ, eG⟩ := Kd.V_slice bQ.out
        subst eG
        go_wp2
        go_meet
        case rel => exact ⟨_, (true), oU, H', ⟨(by have := HK1.out; first | omega | exact Nat.le_refl _)⟩, ⟨(oR aK)⟩, ⟨(by (with_reducible repeat (first | apply Kd.N_alloc | apply Kd.N_drewN | apply Kd.N_drew)); exact aD.out)⟩, ⟨(oV aQ)⟩, ⟨(oV bQ)⟩, ⟨(oB HB)⟩⟩
       ·rw [if_neg bX] at H
        have bJ : ((aE.length : Int) == 0) = false := beq_eq_false_iff_ne.mpr bX
        have cO : ((aE.length : Int) != 0) = true := bne_iff_ne.mpr bX
        have dM : ¬ (aE = []) := fun h_ => bX (by rw [h_]; rfl)
        (first | rw [bJ] | (simp only [i64_w, i32_w]; rw [bJ]) | skip)
        have H' := Aside0.mk H
        clear H
        obtain ⟨fD, fK, eH⟩ := Kd.V_slice bQ.out
        subst eH
        obtain ⟨fE, fL, eI⟩ := Kd.R_slice aK.out
        subst eI
        go_wp2
        go_meet
        case rel => exact ⟨_, (decide ((wrap64 ((bH.length : Int) + (aE.length : Int))) > 200)), oU, H', ⟨(by have := HK1.out; first | omega | exact Nat.le_refl _)⟩, ⟨(oR aK)⟩, ⟨(by (with_reducible repeat (first | apply Kd.N_alloc | apply Kd.N_drewN | apply Kd.N_drew)); exact aD.out)⟩, ⟨(oV aQ)⟩, ⟨(oV bQ)⟩, ⟨(oB HB)⟩⟩
      case rest =>
       clear cQ
       try clear c1
       try clear c2
       try clear p2
       try clear c4
       try clear p6
       try clear c8
       try clear dQ
       try clear dK
       try clear cI
       try clear cJ
       try clear cK
       try clear cL
       try clear cM
       try clear cN
       try clear dL
       try clear bX
       try clear bJ
       try clear cO
       try clear dM
       try clear p2
       obtain ⟨kq, bK, rfl, HA, bT, aK, aD, aQ, aA, HB⟩ := hcut
       cases kq with
       | zero => exact nomatch (show none = some _ from HA.out)
       | succ kj19 =>
        have H := HA.out
        clear HA
        simp only [spec_PakGet.j1] at H
        by_cases dX : bK = true
        ·subst dX
         rw [if_pos rfl] at H
         obtain ⟨y424, hy424⟩ : ∃ y_ : List Int, y_ = (([] : List Int)) := ⟨_, rfl⟩
         replace H : (some (y424, false)) = some (r1, r2) := by first | (rw [hy424]; with_reducible exact H) | (have H2_ := (Option.bind_some _ _).symm.trans H; rw [hy424]; with_reducible exact H2_) | (have H2_ := (Option.bind_some _ _).symm.trans H; with_reducible exact H2_) | with_reducible exact H | (rw [hy424]; exact H) | exact H
         have cG := Aside0.mk hy424
         clear hy424
         simp only [Option.some.injEq, Prod.mk.injEq] at H
         obtain ⟨rfl, rfl⟩ := H
         go_wp2_with (first | ((with_reducible refine gate_dst (N := 60) rfl ?_); (try (refine gate_guard (by rfl) ?_; dsimp only)); refine Kd.R_lit (Kd.int .u8) _ 5 ?hg (N := 60) ?hd (xs := ([] : List Int)) (inner := []) (ok := fun _ => True) (okp := fun _ => True) ?hr ?hp (fun _ hk => hk) trivial (Below.refl _ _) (Nat.le_refl _) (by simp) ?_; (case hd => rfl); (case hg => rfl); (case hr => first | (go_simp; done) | (go_simp; rfl)); (case hp => exact (Reps.none _ _)); intro fV gH ho30 hb hg_ hnew_; clear hg_ hnew_; (first | rw [← cG.out] at ho30 | (simp only [Int.reduceToNat] at ho30; rw [← cG.out] at ho30)); have n_ := o2_ (Kd.R_elder' (oR aK) (Kd.R_base ho30) hb) (o2_ (Kd.N_elder' (by (with_reducible repeat (first | apply Kd.N_alloc | apply Kd.N_drewN | apply Kd.N_drew)); exact aD.out) (Kd.R_base ho30) hb) (o2_ (Kd.V_elder' (oV aQ) (Kd.R_base ho30) hb) (o2_ (Kd.V_elder' (oV aA) (Kd.R_base ho30) hb) (o2_ (Kd.R_lower (Kd.R_new' ho30 (Kd.R_lt (oR aK))) (below_size (oB HB))) (o1_ (below_step (oB HB) hb)))))); clear aK aD aQ aA HB; obtain ⟨aK, aD, aQ, aA, dG, HB⟩ := n_; clear hb ho30))
         go_ret2
         exact ⟨_, by first | rfl | (simp [errW_none, errW_some] <;> rfl) | (simp [*, errW_none, errW_some] <;> rfl), by (with_reducible repeat (first | apply Kd.R_alloc | apply Kd.R_drewN | apply Kd.R_drew)); exact Kd.R_mono dG.out (fun _ hk => trivial), oB HB⟩
        ·replace dX := Bool.eq_false_iff.mpr dX
         subst dX
         rw [if_neg (show ¬ (false = true) by decide)] at H
         by_cases dY : bH.length + aE.length < 140737488355328
         ·rw [if_pos dY] at H
          have LMc31 := Aside0.mk dY
          clear dY
          obtain ⟨aV, hy427⟩ : ∃ y_ : List Int, y_ = (bH ++ aE) := ⟨_, rfl⟩
          replace H : (if (aN.length : Int) > 0 then (if (wrap64 (257 + (aH.length : Int))) < 512 then ((some (([] : List Int) : List Int)).bind fun aZ => (if aZ.length + aN.length < 140737488355328 then ((some (aZ ++ aN : List Int)).bind fun aW => (if 0 < (aE.length : Int) then ((some (([rd aE 0] : List Int) : List Int)).bind fun aM => (if aW.length + aM.length < 140737488355328 then ((some (([(aW ++ aM)] : List (List Int)) : List (List Int))).bind fun aP => (if aH.length + aP.length < 5864062014805 then (spec_PakGet.l0 kj19 l0 aV (aH ++ aP) aE (wrap64 (aI + 9))) else (none))) else (none))) else (none))) else (none))) else (spec_PakGet.l0 kj19 l0 aV aH aE (wrap64 (aI + 9)))) else (spec_PakGet.l0 kj19 l0 aV aH aE (wrap64 (aI + 9)))) = some (r1, r2) := by first | (rw [hy427]; with_reducible exact H) | (have H2_ := (Option.bind_some _ _).symm.trans H; rw [hy427]; with_reducible exact H2_) | (have H2_ := (Option.bind_some _ _).symm.trans H; with_reducible exact H2_) | with_reducible exact H | (rw [hy427]; exact H) | exact H
          have bU := Aside0.mk hy427
          clear hy427
          by_cases cV : (aN.length : Int) > 0
          ·rw [if_pos cV] at H
           have dN : decide (0 < (aN.length : Int)) = true := decide_eq_true cV
           have dO : decide (0 < aN.length) = true := decide_eq_true (by omega)
           clear cV
           by_cases cW : (wrap64 (257 + (aH.length : Int))) < 512
           ·rw [if_pos cW] at H
            have dP : decide ((wrap64 (257 + (aH.length : Int))) < 512) = true := decide_eq_true cW
            clear cW
            obtain ⟨aZ, hy430⟩ : ∃ y_ : List Int, y_ = (([] : List Int)) := ⟨_, rfl⟩
            replace H : (if aZ.length + aN.length < 140737488355328 then ((some (aZ ++ aN : List Int)).bind fun aW => (if 0 < (aE.length : Int) then ((some (([rd aE 0] : List Int) : List Int)).bind fun aM => (if aW.length + aM.length < 140737488355328 then ((some (([(aW ++ aM)] : List (List Int)) : List (List Int))).bind fun aP => (if aH.length + aP.length < 5864062014805 then (spec_PakGet.l0 kj19 l0 aV (aH ++ aP) aE (wrap64 (aI + 9))) else (none))) else (none))) else (none))) else (none)) = some (r1, r2) := by first | (rw [hy430]; with_reducible exact H) | (have H2_ := (Option.bind_some _ _).symm.trans H; rw [hy430]; with_reducible exact H2_) | (have H2_ := (Option.bind_some _ _).symm.trans H; with_reducible exact H2_) | with_reducible exact H | (rw [hy430]; exact H) | exact H
            have bS := Aside0.mk hy430
            clear hy430
            by_cases dZ : aZ.length + aN.length < 140737488355328
            ·rw [if_pos dZ] at H
             have LMc34 := Aside0.mk dZ
             clear dZ
             obtain ⟨aW, hy433⟩ : ∃ y_ : List Int, y_ = (aZ ++ aN) := ⟨_, rfl⟩
             replace H : (if 0 < (aE.length : Int) then ((some (([rd aE 0] : List Int) : List Int)).bind fun aM => (if aW.length + aM.length < 140737488355328 then ((some (([(aW ++ aM)] : List (List Int)) : List (List Int))).bind fun aP => (if aH.length + aP.length < 5864062014805 then (spec_PakGet.l0 kj19 l0 aV (aH ++ aP) aE (wrap64 (aI + 9))) else (none))) else (none))) else (none)) = some (r1, r2) := by first | (rw [hy433]; with_reducible exact H) | (have H2_ := (Option.bind_some _ _).symm.trans H; rw [hy433]; with_reducible exact H2_) | (have H2_ := (Option.bind_some _ _).symm.trans H; with_reducible exact H2_) | with_reducible exact H | (rw [hy433]; exact H) | exact H
             have bV := Aside0.mk hy433
             clear hy433
             by_cases eA : 0 < (aE.length : Int)
             ·rw [if_pos eA] at H
              have eQ : decide (0 < (aE.length : Int)) = true := decide_eq_true eA
              have eR : decide (0 < aE.length) = true := decide_eq_true (by omega)
              clear eA
              obtain ⟨aM, hy437⟩ : ∃ y_ : List Int, y_ = (([rd aE 0] : List Int)) := ⟨_, rfl⟩
              replace H : (if aW.length + aM.length < 140737488355328 then ((some (([(aW ++ aM)] : List (List Int)) : List (List Int))).bind fun aP => (if aH.length + aP.length < 5864062014805 then (spec_PakGet.l0 kj19 l0 aV (aH ++ aP) aE (wrap64 (aI + 9))) else (none))) else (none)) = some (r1, r2) := by first | (rw [hy437]; with_reducible exact H) | (have H2_ := (Option.bind_some _ _).symm.trans H; rw [hy437]; with_reducible exact H2_) | (have H2_ := (Option.bind_some _ _).symm.trans H; with_reducible exact H2_) | with_reducible exact H | (rw [hy437]; exact H) | exact H
              have bI := Aside0.mk hy437
              clear hy437
              by_cases eB : aW.length + aM.length < 140737488355328
              ·rw [if_pos eB] at H
               have LMc36 := Aside0.mk eB
               clear eB
               obtain ⟨y440, hy440⟩ : ∃ y_ : List Int, y_ = (aW ++ aM) := ⟨_, rfl⟩
               replace H : ((some (([y440] : List (List Int)) : List (List Int))).bind fun aP => (if aH.length + aP.length < 5864062014805 then (spec_PakGet.l0 kj19 l0 aV (aH ++ aP) aE (wrap64 (aI + 9))) else (none))) = some (r1, r2) := by first | (rw [hy440]; with_reducible exact H) | (have H2_ := (Option.bind_some _ _).symm.trans H; rw [hy440]; with_reducible exact H2_) | (have H2_ := (Option.bind_some _ _).symm.trans H; with_reducible exact H2_) | with_reducible exact H | (rw [hy440]; exact H) | exact H
               have dI := Aside0.mk hy440
               clear hy440
               obtain ⟨aP, hy443⟩ : ∃ y_ : List (List Int), y_ = (([y440] : List (List Int))) := ⟨_, rfl⟩
               replace H : (if aH.length + aP.length < 5864062014805 then (spec_PakGet.l0 kj19 l0 aV (aH ++ aP) aE (wrap64 (aI + 9))) else (none)) = some (r1, r2) := by first | (rw [hy443]; with_reducible exact H) | (have H2_ := (Option.bind_some _ _).symm.trans H; rw [hy443]; with_reducible exact H2_) | (have H2_ := (Option.bind_some _ _).symm.trans H; with_reducible exact H2_) | with_reducible exact H | (rw [hy443]; exact H) | exact H
               have cH := Aside0.mk hy443
               clear hy443
               by_cases eC : aH.length + aP.length < 5864062014805
               ·rw [if_pos eC] at H
                have LMc37 := Aside0.mk eC
                clear eC
                obtain ⟨y446, hy446⟩ : ∃ y_ : List (List Int), y_ = (aH ++ aP) := ⟨_, rfl⟩
                replace H : (spec_PakGet.l0 kj19 l0 aV y446 aE (wrap64 (aI + 9))) = some (r1, r2) := by first | (rw [hy446]; with_reducible exact H) | (have H2_ := (Option.bind_some _ _).symm.trans H; rw [hy446]; with_reducible exact H2_) | (have H2_ := (Option.bind_some _ _).symm.trans H; with_reducible exact H2_) | with_reducible exact H | (rw [hy446]; exact H) | exact H
                have dJ := Aside0.mk hy446
                clear hy446
                have H' := Aside0.mk H
                clear H
                obtain ⟨fF, dS, eJ⟩ := Kd.V_slice aA.out
                subst eJ
                have HXm := Aside0.mk (fun (ad_ : Addr) (h_ : fF = some ad_) (hn_ : 0 < aE.length) => (pg_ok aA.out hn_ h_).2)
                try go_wp2_with (first | ((with_reducible refine gate_builtin (b := .append) (xs := #[.tmp 61, .tmp 62]) rfl ?_); (try (refine gate_guard (by rfl) ?_; dsimp only)); at_builtin; refine Kd.R_append_rows (Kd.int .u8) (w0 := w) w.heap.size rfl (.tmp 61) (.tmp 62) 24 5 (.int .u8 0) 1 rfl Try.underlying24 info5 rfl oD (by omega) u4 bH aE _ _ _ (fun _ => True) (fun _ => False) rfl rfl ?aO ?aR (fun _ _ h => h) (fun _ h => h.elim) ?aF ?aB ?aS ?aL ?_; (case aR => repeat (first | exact (Kd.V_reads' aA.out).2.2 | (with_reducible refine Kd.C_alloc ?_ _) | (with_reducible refine Kd.C_drewN ?_ _) | (with_reducible refine Kd.C_drew ?_))); (case aB => exact (oB HB)); (case aF => exact (fun _ _ => trivial)); (case aO => exact (oR aK)); (case aS => exact (below_size (oB HB))); (case aL => have := LMc31.out; omega); intro aJ gA ho hb hg hat; rw [← bU.out] at ho; have n_ := o2_ (Kd.N_afterv (ok := (fun _ => True)) (by (with_reducible repeat (first | apply Kd.N_alloc | apply Kd.N_drewN | apply Kd.N_drew)); exact Kd.N_mono aD.out (fun _ hk => ⟨trivial, hk⟩)) hg hat) (o2_ (Kd.V_afterv (ok := (fun k_ => some k_ ≠ (.slice bA aH.length bC : Value).ownBlock)) (by (with_reducible repeat (first | apply Kd.V_alloc | apply Kd.V_drewN | apply Kd.V_drew)); exact Kd.V_mono aA.out (fun _ hk => ⟨hk.2, hk.1⟩)) hg hat) (o2_ (hb) (o1_ (ho)))); clear aD aA HB aK; obtain ⟨aD, aA, HB, aC⟩ := n_; have aQ := Aside0.mk (Kd.V_afterv (ok := (fun k_ => some k_ ≠ (.slice bA aH.length bC : Value).ownBlock)) (by (with_reducible repeat (first | apply Kd.V_alloc | apply Kd.V_drewN | apply Kd.V_drew)); exact Kd.V_mono aQ.out (fun _ hk => ⟨hk.2, hk.1⟩)) hg hat); clear ho hb hg hat))
                have aQ := Aside0.mk (Kd.V_drew aQ.out)
                have n_ := o2_ (Kd.N_drew aD.out) (o2_ (Kd.V_drew aA.out) (o2_ (Kd.R_drew aC.out) (o1_ (below_drew1 HB.out))))
                clear aD aA aC HB
                obtain ⟨aD, aA, aC, HB⟩ := n_
                have bM : 0 ≤ (0 : Int) := (by omega)
                have bN : 0 < (aE.length : Int) := of_decide_eq_true oM
                obtain ⟨bL, eD, bG⟩ := Kd.at_int (Kd.V_reads' aA.out).2.2 0 bM bN
                cases eD
                have qi436 : (0 < aE.length) = True := eq_true (by omega)
                (try rw [show ((0 : Int)).toNat = 0 from rfl] at bG)
                (try rw [Addr.add_zero'] at bG)
                replace bM := eq_true bM
                replace bN := eq_true bN
                refine start_ (n := 12) (S := fun w' => w'.cell? bL = some (.int .u8 (rd aE 0))) (ds := []) #[false, false, false, false, false, false, false, false, false, false, false, false] oK rfl rfl (bG) (fun hHeld => ?_); refine with_tabW spec_PakGet.tab19 spec_PakGet.bits19 (fun HT_ HW_ => ?_)
                generalize gA.drew = gI at aD aA aQ aC HB bG hHeld ⊢
                refine pure_ (i := 0) (N := some 73) (v := ?_) (a' := ?_) #[true, false, false, false, false, false, false, false, false, false, false, false] rfl rfl (any_of HT_.out oK) (fun _ _ _ h => h) (Or.inl ⟨by rfl, ?_⟩) ?_ ?_
                rotate_left
                ·intro w'
                 go_simp
                 with_reducible rfl
                rotate_left
                ·exact oT
                refine pure_ (i := 2) (N := some 75) (v := ?_) (a' := ?_) #[true, false, true, false, false, false, false, false, false, false, false, false] rfl rfl (any_of HT_.out oK) (fun _ _ _ h => h) (Or.inl ⟨by rfl, ?_⟩) ?_ ?_
                rotate_left
                ·intro w'
                 go_simp
                 with_reducible rfl
                rotate_left
                ·exact oT
                refine pure_ (i := 4) (N := some 77) (v := ?_) (a' := ?_) #[true, false, true, false, true, false, false, false, false, false, false, false] rfl rfl (any_of HT_.out oK) (fun _ _ _ h => h) (Or.inl ⟨by rfl, ?_⟩) ?_ ?_
                rotate_left
                ·intro w'
                 go_simp
                 with_reducible rfl
                rotate_left
                ·exact oT
                refine pure_ (i := 5) (N := some 78) (v := ?_) (a' := ?_) #[true, false, true, false, true, true, false, false, false, false, false, false] rfl rfl (any_of HT_.out oK) (fun _ _ _ h => h) (Or.inl ⟨by rfl, ?_⟩) ?_ ?_
                rotate_left
                ·intro w'
                 go_simp
                 with_reducible rfl
                rotate_left
                ·exact oT
                refine take_ (i := 6) (N := some 79) (v := ?_) (a' := ?_) #[true, false, true, false, true, true, true, false, false, false, false, false] rfl rfl (take_ofW HT_.out HW_.out oK) (fun _ _ _ h => h) (Or.inl ⟨by rfl, ?_⟩) hHeld ?_ ?_
                rotate_left
                ·intro w' s0
                 go_simp
                 with_reducible rfl
                rotate_left
                ·exact oT
                refine join_ (σ := Value × Value × Value) 4 #[true, true, true, true, true, true, true, true, false, false, false, false] (fun s_ => [(74, s_.1), (76, s_.2.1), (80, s_.2.2)]) (fun s_ w' => (w'.cell? bL = some (.int .u8 (rd aE 0))) ∧ (Kd.R (Kd.int .u8) 5 w' w.heap.size (fun k_ => some k_ ≠ (s_.2.1 : Value).ownBlock ∧ some k_ ≠ (s_.2.2 : Value).ownBlock) aJ aV) ∧ (Kd.R (Kd.int .u8) 5 w' w.heap.size (fun k_ => some k_ ≠ (aJ : Value).ownBlock ∧ some k_ ≠ (s_.2.2 : Value).ownBlock) s_.2.1 aW) ∧ (Kd.R (Kd.int .u8) 5 w' w.heap.size (fun k_ => some k_ ≠ (aJ : Value).ownBlock ∧ some k_ ≠ (s_.2.1 : Value).ownBlock) s_.2.2 aM) ∧ (Kd.V (Kd.int .u8) 5 w' w.heap.size (fun k_ => some k_ ≠ (aJ : Value).ownBlock ∧ some k_ ≠ (s_.2.1 : Value).ownBlock ∧ some k_ ≠ (s_.2.2 : Value).ownBlock) (.slice (some bL) aE.length dS) aE) ∧ (Kd.N (Kd.slice 5 (Kd.int .u8)) 24 w' w.heap.size (fun k_ => some k_ ≠ (aJ : Value).ownBlock ∧ some k_ ≠ (s_.2.1 : Value).ownBlock ∧ some k_ ≠ (s_.2.2 : Value).ownBlock) (.slice bA aH.length bC) aH) ∧ (Below w.heap.size w w')) ?_ ?_
                rotate_left
                ·intro hCont
                 refine two_ (i := 1) (j := 7) (Ni := some 74) (Nj := some 80) #[true, true, true, false, true, true, true, false, false, false, false, false] #[true, false, true, false, true, true, true, true, false, false, false, false] rfl rfl rfl rfl (two_of HT_.out oK) oD oD (fun K hK => ?_) (fun K hK => ?_)
                 ·skip
                  refine Kd.R_lit_step (Kd.int .u8) _ 5 ?hg (N := 74) ?hd (xs := ([] : List Int)) (inner := []) (ok := fun _ => True) (okp := fun _ => True) ?hr ?hp (fun _ hk => hk) trivial (Below.refl _ _) (Nat.le_refl _) (by simp) ?_; (case hd => rfl); (case hg => rfl); (case hr => first | (go_simp; done) | (go_simp; rfl)); (case hp => exact (Reps.none _ _))
                  intro bO gB ho42 hb hg_ hnew_
                  have HS0_ := (hb.cell (World.block_lt_of_cell? _ _ (hHeld))).trans (hHeld)
                  clear hg_ hnew_
                  (first | rw [← bS.out] at ho42 | (simp only [Int.reduceToNat] at ho42; rw [← bS.out] at ho42))
                  have n_ := o2_ (Kd.N_elder' (by (with_reducible repeat (first | apply Kd.N_alloc | apply Kd.N_drewN | apply Kd.N_drew)); exact aD.out) (Kd.R_base ho42) hb) (o2_ (Kd.V_elder' (oV aA) (Kd.R_base ho42) hb) (o2_ (Kd.R_elder' (oR aC) (Kd.R_base ho42) hb) (o2_ (Kd.R_lower (Kd.R_new' ho42 (Kd.R_lt (oR aC))) (below_size (oB HB))) (o1_ (below_step (oB HB) hb)))))
                  clear aD aA aC HB
                  obtain ⟨aD, aA, aC, aX, HB⟩ := n_
                  first | have aQ := Aside0.mk (Kd.V_below aQ.out hb) | skip
                  clear hb ho42
                  refine hK.out _ _ (HS0_) (fun hHeld => ?_)
                  clear hK K
                  refine norm_ (a' := ?_) ?_ ?_
                  rotate_left
                  ·show Act.put _ (some 74) _ = _
                   exact oT
                  refine two_ (i := 3) (j := 7) (Ni := some 76) (Nj := some 80) #[true, true, true, true, true, true, true, false, false, false, false, false] #[true, true, true, false, true, true, true, true, false, false, false, false] rfl rfl rfl rfl (two_of HT_.out oK) oD oD (fun K hK => ?_) (fun K hK => ?_)
                  ·skip
                   refine Kd.R_append_rows_step (Kd.int .u8) (w0 := w) w.heap.size (by rfl) (.tmp 74) (.tmp 75) 24 5 (.int .u8 0) 1 rfl Try.underlying24 info5 rfl oD (by omega) bO aZ aN _ _ _ (fun k_ => some k_ ≠ (aJ : Value).ownBlock) (fun _ => False) rfl rfl ?aO ?aR (fun _ _ h => h) (fun _ h => h.elim) ?aF ?aB ?aS ?aL ?_
                   (case aR => repeat (first | exact (Kd.V_reads' aQ.out).2.2 | (with_reducible refine Kd.C_alloc ?_ _) | (with_reducible refine Kd.C_drewN ?_ _) | (with_reducible refine Kd.C_drew ?_)))
                   (case aB => exact (oB HB))
                   (case aF => exact (fun k_ hk => Kd.fresh' (Kd.R_lt (oR aC)) k_ hk))
                   (case aO => exact (by (with_reducible repeat (first | apply Kd.R_alloc | apply Kd.R_drewN | apply Kd.R_drew)); exact Kd.R_mono aX.out (fun _ hk => hk.2)))
                   (case aS => exact (below_size (oB HB)))
                   (case aL => have := LMc34.out; omega)
                   intro bF fA ho hb hg hat
                   rw [← bV.out] at ho
                   have n_ := o2_ (Kd.N_afterv (ok := (fun k_ => some k_ ≠ (aJ : Value).ownBlock)) (by (with_reducible repeat (first | apply Kd.N_alloc | apply Kd.N_drewN | apply Kd.N_drew)); exact Kd.N_mono aD.out (fun _ hk => ⟨hk.1.2, hk.2⟩)) hg hat) (o2_ (Kd.V_afterv (ok := (fun k_ => some k_ ≠ (aJ : Value).ownBlock)) (by (with_reducible repeat (first | apply Kd.V_alloc | apply Kd.V_drewN | apply Kd.V_drew)); exact Kd.V_mono aA.out (fun _ hk => ⟨hk.1.2, hk.2⟩)) hg hat) (o2_ (Kd.R_after (ok := (fun _ => True)) (oR aC) hg hat) (o2_ (hb) (o1_ (ho)))))
                   clear aD aA aC HB aX
                   obtain ⟨aD, aA, aC, HB, aU⟩ := n_
                   clear ho hb hg hat
                   refine hK.out _ _ ((by obtain ⟨a_, e_, h_⟩ := Kd.at_int (Kd.V_reads' aA.out).2.2 0 (of_eq_true bM) (of_eq_true bN); cases e_; (try rw [show ((0 : Int)).toNat = 0 from rfl] at h_); (try rw [Addr.add_zero'] at h_); exact h_)) (fun hHeld => ?_)
                   clear hK K
                   refine norm_ (a' := ?_) ?_ ?_
                   rotate_left
                   ·show Act.put _ (some 76) _ = _
                    exact oT
                   refine one_ (i := 7) (N := some 80) #[true, true, true, true, true, true, true, true, false, false, false, false] rfl rfl (one_of HT_.out oK) oD (fun K hK => ?_)
                   refine Kd.R_lit_step (Kd.int .u8) _ 5 ?hg (N := 80) ?hd (xs := ([rd aE 0] : List Int)) (inner := [.int .u8 (rd aE 0)]) (ok := fun _ => True) (okp := fun _ => True) ?hr ?hp (fun _ hk => hk) trivial (Below.refl _ _) (Nat.le_refl _) (by simp) ?_; (case hd => rfl); (case hg => rfl); (case hr => first | (go_simp; done) | (go_simp; rfl)); (case hp => exact (Reps.one (show Kd.M (Kd.int .u8) _ _ _ (rd aE 0) [.int .u8 (rd aE 0)] from rfl) (Reps.none _ _)))
                   intro aT gJ ho45 hb hg_ hnew_
                   have HS0_ := (hb.cell (World.block_lt_of_cell? _ _ (hHeld))).trans (hHeld)
                   clear hg_ hnew_
                   (first | rw [← bI.out] at ho45 | (simp only [Int.reduceToNat] at ho45; rw [← bI.out] at ho45))
                   have n_ := o2_ (Kd.N_elder' (by (with_reducible repeat (first | apply Kd.N_alloc | apply Kd.N_drewN | apply Kd.N_drew)); exact aD.out) (Kd.R_base ho45) hb) (o2_ (Kd.V_elder' (oV aA) (Kd.R_base ho45) hb) (o2_ (Kd.R_elder' (oR aC) (Kd.R_base ho45) hb) (o2_ (Kd.R_elder' (oR aU) (Kd.R_base ho45) hb) (o2_ (Kd.R_lower (Kd.R_new' (Kd.R_new' ho45 (Kd.R_lt (oR aC))) (Kd.R_lt (oR aU))) (below_size (oB HB))) (o1_ (below_step (oB HB) hb))))))
                   clear aD aA aC aU HB
                   obtain ⟨aD, aA, aC, aU, aG, HB⟩ := n_
                   first | have aQ := Aside0.mk (Kd.V_below aQ.out hb) | skip
                   clear hb ho45
                   refine hK.out _ _ (HS0_) (fun hHeld => ?_)
                   clear hK K
                   refine norm_ (a' := ?_) ?_ ?_
                   rotate_left
                   ·show Act.put _ (some 80) _ = _
                    exact oT
                   exact norm_ (by simp only [putAll, Act.put, List.setIfInBounds_toArray, List.set_cons_zero, List.set_cons_succ]) (hCont (bO, bF, aT) _ ⟨hHeld, (by (with_reducible repeat (first | apply Kd.R_alloc | apply Kd.R_drewN | apply Kd.R_drew)); exact Kd.R_mono aC.out (fun _ hk => ⟨hk.1.2, hk.2⟩)), (oR aU), (by (with_reducible repeat (first | apply Kd.R_alloc | apply Kd.R_drewN | apply Kd.R_drew)); exact Kd.R_mono aG.out (fun _ hk => ⟨hk.1.2, hk.2⟩)), (by (with_reducible repeat (first | apply Kd.V_alloc | apply Kd.V_drewN | apply Kd.V_drew)); exact Kd.V_mono aA.out (fun _ hk => ⟨hk.1.1, ⟨hk.1.2, hk.2⟩⟩)), (by (with_reducible repeat (first | apply Kd.N_alloc | apply Kd.N_drewN | apply Kd.N_drew)); exact Kd.N_mono aD.out (fun _ hk => ⟨hk.1.1, ⟨hk.1.2, hk.2⟩⟩)), (oB HB)⟩)
                  ·skip
                   refine Kd.R_lit_step (Kd.int .u8) _ 5 ?hg (N := 80) ?hd (xs := ([rd aE 0] : List Int)) (inner := [.int .u8 (rd aE 0)]) (ok := fun _ => True) (okp := fun _ => True) ?hr ?hp (fun _ hk => hk) trivial (Below.refl _ _) (Nat.le_refl _) (by simp) ?_; (case hd => rfl); (case hg => rfl); (case hr => first | (go_simp; done) | (go_simp; rfl)); (case hp => exact (Reps.one (show Kd.M (Kd.int .u8) _ _ _ (rd aE 0) [.int .u8 (rd aE 0)] from rfl) (Reps.none _ _)))
                   intro aT fA ho44 hb hg_ hnew_
                   have HS0_ := (hb.cell (World.block_lt_of_cell? _ _ (hHeld))).trans (hHeld)
                   clear hg_ hnew_
                   (first | rw [← bI.out] at ho44 | (simp only [Int.reduceToNat] at ho44; rw [← bI.out] at ho44))
                   have n_ := o2_ (Kd.N_elder' (by (with_reducible repeat (first | apply Kd.N_alloc | apply Kd.N_drewN | apply Kd.N_drew)); exact aD.out) (Kd.R_base ho44) hb) (o2_ (Kd.V_elder' (oV aA) (Kd.R_base ho44) hb) (o2_ (Kd.R_elder' (oR aC) (Kd.R_base ho44) hb) (o2_ (Kd.R_elder' (oR aX) (Kd.R_base ho44) hb) (o2_ (Kd.R_lower (Kd.R_new' (Kd.R_new' ho44 (Kd.R_lt (oR aC))) (Kd.R_lt (oR aX))) (below_size (oB HB))) (o1_ (below_step (oB HB) hb))))))
                   clear aD aA aC aX HB
                   obtain ⟨aD, aA, aC, aX, aG, HB⟩ := n_
                   first | have aQ := Aside0.mk (Kd.V_below aQ.out hb) | skip
                   clear hb ho44
                   refine hK.out _ _ (HS0_) (fun hHeld => ?_)
                   clear hK K
                   refine norm_ (a' := ?_) ?_ ?_
                   rotate_left
                   ·show Act.put _ (some 80) _ = _
                    exact oT
                   refine one_ (i := 3) (N := some 76) #[true, true, true, true, true, true, true, true, false, false, false, false] rfl rfl (one_of HT_.out oK) oD (fun K hK => ?_)
                   refine Kd.R_append_rows_step (Kd.int .u8) (w0 := w) w.heap.size (by rfl) (.tmp 74) (.tmp 75) 24 5 (.int .u8 0) 1 rfl Try.underlying24 info5 rfl oD (by omega) bO aZ aN _ _ _ (fun k_ => some k_ ≠ (aJ : Value).ownBlock ∧ some k_ ≠ (aT : Value).ownBlock) (fun _ => False) rfl rfl ?aO ?aR (fun _ _ h => h) (fun _ h => h.elim) ?aF ?aB ?aS ?aL ?_
                   (case aR => repeat (first | exact (Kd.V_reads' aQ.out).2.2 | (with_reducible refine Kd.C_alloc ?_ _) | (with_reducible refine Kd.C_drewN ?_ _) | (with_reducible refine Kd.C_drew ?_)))
                   (case aB => exact (oB HB))
                   (case aF => exact (fun k_ hk => ⟨Kd.fresh' (Kd.R_lt (oR aC)) k_ hk, Kd.fresh' (Kd.R_lt (oR aG)) k_ hk⟩))
                   (case aO => exact (by (with_reducible repeat (first | apply Kd.R_alloc | apply Kd.R_drewN | apply Kd.R_drew)); exact Kd.R_mono aX.out (fun _ hk => ⟨hk.1.2, hk.2⟩)))
                   (case aS => exact (below_size (oB HB)))
                   (case aL => have := LMc34.out; omega)
                   intro bF gC ho hb hg hat
                   rw [← bV.out] at ho
                   have n_ := o2_ (Kd.N_afterv (ok := (fun k_ => some k_ ≠ (aJ : Value).ownBlock ∧ some k_ ≠ (aT : Value).ownBlock)) (by (with_reducible repeat (first | apply Kd.N_alloc | apply Kd.N_drewN | apply Kd.N_drew)); exact Kd.N_mono aD.out (fun _ hk => ⟨⟨hk.1.1.2, hk.2⟩, hk.1.2⟩)) hg hat) (o2_ (Kd.V_afterv (ok := (fun k_ => some k_ ≠ (aJ : Value).ownBlock ∧ some k_ ≠ (aT : Value).ownBlock)) (by (with_reducible repeat (first | apply Kd.V_alloc | apply Kd.V_drewN | apply Kd.V_drew)); exact Kd.V_mono aA.out (fun _ hk => ⟨⟨hk.1.1.2, hk.2⟩, hk.1.2⟩)) hg hat) (o2_ (Kd.R_after (ok := (fun k_ => some k_ ≠ (aT : Value).ownBlock)) (by (with_reducible repeat (first | apply Kd.R_alloc | apply Kd.R_drewN | apply Kd.R_drew)); exact Kd.R_mono aC.out (fun _ hk => ⟨hk.2, hk.1.2⟩)) hg hat) (o2_ (Kd.R_after (ok := (fun k_ => some k_ ≠ (aJ : Value).ownBlock)) (by (with_reducible repeat (first | apply Kd.R_alloc | apply Kd.R_drewN | apply Kd.R_drew)); exact Kd.R_mono aG.out (fun _ hk => ⟨hk.1.2, hk.2⟩)) hg hat) (o2_ (hb) (o1_ (ho))))))
                   clear aD aA aC aG HB aX
                   obtain ⟨aD, aA, aC, aG, HB, aU⟩ := n_
                   clear ho hb hg hat
                   refine hK.out _ _ ((by obtain ⟨a_, e_, h_⟩ := Kd.at_int (Kd.V_reads' aA.out).2.2 0 (of_eq_true bM) (of_eq_true bN); cases e_; (try rw [show ((0 : Int)).toNat = 0 from rfl] at h_); (try rw [Addr.add_zero'] at h_); exact h_)) (fun hHeld => ?_)
                   clear hK K
                   refine norm_ (a' := ?_) ?_ ?_
                   rotate_left
                   ·show Act.put _ (some 76) _ = _
                    exact oT
                   exact norm_ (by simp only [putAll, Act.put, List.setIfInBounds_toArray, List.set_cons_zero, List.set_cons_succ]) (hCont (bO, bF, aT) _ ⟨hHeld, (by (with_reducible repeat (first | apply Kd.R_alloc | apply Kd.R_drewN | apply Kd.R_drew)); exact Kd.R_mono aC.out (fun _ hk => ⟨hk.2, hk.1⟩)), (oR aU), (oR aG), (by (with_reducible repeat (first | apply Kd.V_alloc | apply Kd.V_drewN | apply Kd.V_drew)); exact Kd.V_mono aA.out (fun _ hk => ⟨hk.1.1, ⟨hk.2, hk.1.2⟩⟩)), (by (with_reducible repeat (first | apply Kd.N_alloc | apply Kd.N_drewN | apply Kd.N_drew)); exact Kd.N_mono aD.out (fun _ hk => ⟨hk.1.1, ⟨hk.2, hk.1.2⟩⟩)), (oB HB)⟩)
                 ·skip
                  refine Kd.R_lit_step (Kd.int .u8) _ 5 ?hg (N := 80) ?hd (xs := ([rd aE 0] : List Int)) (inner := [.int .u8 (rd aE 0)]) (ok := fun _ => True) (okp := fun _ => True) ?hr ?hp (fun _ hk => hk) trivial (Below.refl _ _) (Nat.le_refl _) (by simp) ?_; (case hd => rfl); (case hg => rfl); (case hr => first | (go_simp; done) | (go_simp; rfl)); (case hp => exact (Reps.one (show Kd.M (Kd.int .u8) _ _ _ (rd aE 0) [.int .u8 (rd aE 0)] from rfl) (Reps.none _ _)))
                  intro aT gB ho42 hb hg_ hnew_
                  have HS0_ := (hb.cell (World.block_lt_of_cell? _ _ (hHeld))).trans (hHeld)
                  clear hg_ hnew_
                  (first | rw [← bI.out] at ho42 | (simp only [Int.reduceToNat] at ho42; rw [← bI.out] at ho42))
                  have n_ := o2_ (Kd.N_elder' (by (with_reducible repeat (first | apply Kd.N_alloc | apply Kd.N_drewN | apply Kd.N_drew)); exact aD.out) (Kd.R_base ho42) hb) (o2_ (Kd.V_elder' (oV aA) (Kd.R_base ho42) hb) (o2_ (Kd.R_elder' (oR aC) (Kd.R_base ho42) hb) (o2_ (Kd.R_lower (Kd.R_new' ho42 (Kd.R_lt (oR aC))) (below_size (oB HB))) (o1_ (below_step (oB HB) hb)))))
                  clear aD aA aC HB
                  obtain ⟨aD, aA, aC, aG, HB⟩ := n_
                  first | have aQ := Aside0.mk (Kd.V_below aQ.out hb) | skip
                  clear hb ho42
                  refine hK.out _ _ (HS0_) (fun hHeld => ?_)
                  clear hK K
                  refine norm_ (a' := ?_) ?_ ?_
                  rotate_left
                  ·show Act.put _ (some 80) _ = _
                   exact oT
                  refine one_ (i := 1) (N := some 74) #[true, true, true, false, true, true, true, true, false, false, false, false] rfl rfl (one_of HT_.out oK) oD (fun K hK => ?_)
                  refine Kd.R_lit_step (Kd.int .u8) _ 5 ?hg (N := 74) ?hd (xs := ([] : List Int)) (inner := []) (ok := fun _ => True) (okp := fun _ => True) ?hr ?hp (fun _ hk => hk) trivial (Below.refl _ _) (Nat.le_refl _) (by simp) ?_; (case hd => rfl); (case hg => rfl); (case hr => first | (go_simp; done) | (go_simp; rfl)); (case hp => exact (Reps.none _ _))
                  intro bO fA ho44 hb hg_ hnew_
                  have HS0_ := (hb.cell (World.block_lt_of_cell? _ _ (hHeld))).trans (hHeld)
                  clear hg_ hnew_
                  (first | rw [← bS.out] at ho44 | (simp only [Int.reduceToNat] at ho44; rw [← bS.out] at ho44))
                  have n_ := o2_ (Kd.N_elder' (by (with_reducible repeat (first | apply Kd.N_alloc | apply Kd.N_drewN | apply Kd.N_drew)); exact aD.out) (Kd.R_base ho44) hb) (o2_ (Kd.V_elder' (oV aA) (Kd.R_base ho44) hb) (o2_ (Kd.R_elder' (oR aC) (Kd.R_base ho44) hb) (o2_ (Kd.R_elder' (oR aG) (Kd.R_base ho44) hb) (o2_ (Kd.R_lower (Kd.R_new' (Kd.R_new' ho44 (Kd.R_lt (oR aC))) (Kd.R_lt (oR aG))) (below_size (oB HB))) (o1_ (below_step (oB HB) hb))))))
                  clear aD aA aC aG HB
                  obtain ⟨aD, aA, aC, aG, aX, HB⟩ := n_
                  first | have aQ := Aside0.mk (Kd.V_below aQ.out hb) | skip
                  clear hb ho44
                  refine hK.out _ _ (HS0_) (fun hHeld => ?_)
                  clear hK K
                  refine norm_ (a' := ?_) ?_ ?_
                  rotate_left
                  ·show Act.put _ (some 74) _ = _
                   exact oT
                  refine one_ (i := 3) (N := some 76) #[true, true, true, true, true, true, true, true, false, false, false, false] rfl rfl (one_of HT_.out oK) oD (fun K hK => ?_)
                  refine Kd.R_append_rows_step (Kd.int .u8) (w0 := w) w.heap.size (by rfl) (.tmp 74) (.tmp 75) 24 5 (.int .u8 0) 1 rfl Try.underlying24 info5 rfl oD (by omega) bO aZ aN _ _ _ (fun k_ => some k_ ≠ (aJ : Value).ownBlock ∧ some k_ ≠ (aT : Value).ownBlock) (fun _ => False) rfl rfl ?aO ?aR (fun _ _ h => h) (fun _ h => h.elim) ?aF ?aB ?aS ?aL ?_
                  (case aR => repeat (first | exact (Kd.V_reads' aQ.out).2.2 | (with_reducible refine Kd.C_alloc ?_ _) | (with_reducible refine Kd.C_drewN ?_ _) | (with_reducible refine Kd.C_drew ?_)))
                  (case aB => exact (oB HB))
                  (case aF => exact (fun k_ hk => ⟨Kd.fresh' (Kd.R_lt (oR aC)) k_ hk, Kd.fresh' (Kd.R_lt (oR aG)) k_ hk⟩))
                  (case aO => exact (by (with_reducible repeat (first | apply Kd.R_alloc | apply Kd.R_drewN | apply Kd.R_drew)); exact Kd.R_mono aX.out (fun _ hk => ⟨hk.1.2, hk.2⟩)))
                  (case aS => exact (below_size (oB HB)))
                  (case aL => have := LMc34.out; omega)
                  intro bF gC ho hb hg hat
                  rw [← bV.out] at ho
                  have n_ := o2_ (Kd.N_afterv (ok := (fun k_ => some k_ ≠ (aJ : Value).ownBlock ∧ some k_ ≠ (aT : Value).ownBlock)) (by (with_reducible repeat (first | apply Kd.N_alloc | apply Kd.N_drewN | apply Kd.N_drew)); exact Kd.N_mono aD.out (fun _ hk => ⟨⟨hk.1.1.2, hk.1.2⟩, hk.2⟩)) hg hat) (o2_ (Kd.V_afterv (ok := (fun k_ => some k_ ≠ (aJ : Value).ownBlock ∧ some k_ ≠ (aT : Value).ownBlock)) (by (with_reducible repeat (first | apply Kd.V_alloc | apply Kd.V_drewN | apply Kd.V_drew)); exact Kd.V_mono aA.out (fun _ hk => ⟨⟨hk.1.1.2, hk.1.2⟩, hk.2⟩)) hg hat) (o2_ (Kd.R_after (ok := (fun k_ => some k_ ≠ (aT : Value).ownBlock)) (by (with_reducible repeat (first | apply Kd.R_alloc | apply Kd.R_drewN | apply Kd.R_drew)); exact Kd.R_mono aC.out (fun _ hk => ⟨hk.1.2, hk.2⟩)) hg hat) (o2_ (Kd.R_after (ok := (fun k_ => some k_ ≠ (aJ : Value).ownBlock)) (by (with_reducible repeat (first | apply Kd.R_alloc | apply Kd.R_drewN | apply Kd.R_drew)); exact Kd.R_mono aG.out (fun _ hk => ⟨hk.1.2, hk.2⟩)) hg hat) (o2_ (hb) (o1_ (ho))))))
                  clear aD aA aC aG HB aX
                  obtain ⟨aD, aA, aC, aG, HB, aU⟩ := n_
                  clear ho hb hg hat
                  refine hK.out _ _ ((by obtain ⟨a_, e_, h_⟩ := Kd.at_int (Kd.V_reads' aA.out).2.2 0 (of_eq_true bM) (of_eq_true bN); cases e_; (try rw [show ((0 : Int)).toNat = 0 from rfl] at h_); (try rw [Addr.add_zero'] at h_); exact h_)) (fun hHeld => ?_)
                  clear hK K
                  refine norm_ (a' := ?_) ?_ ?_
                  rotate_left
                  ·show Act.put _ (some 76) _ = _
                   exact oT
                  exact norm_ (by simp only [putAll, Act.put, List.setIfInBounds_toArray, List.set_cons_zero, List.set_cons_succ]) (hCont (bO, bF, aT) _ ⟨hHeld, (by (with_reducible repeat (first | apply Kd.R_alloc | apply Kd.R_drewN | apply Kd.R_drew)); exact Kd.R_mono aC.out (fun _ hk => ⟨hk.2, hk.1⟩)), (oR aU), (oR aG), (by (with_reducible repeat (first | apply Kd.V_alloc | apply Kd.V_drewN | apply Kd.V_drew)); exact Kd.V_mono aA.out (fun _ hk => ⟨hk.1.1, ⟨hk.2, hk.1.2⟩⟩)), (by (with_reducible repeat (first | apply Kd.N_alloc | apply Kd.N_drewN | apply Kd.N_drew)); exact Kd.N_mono aD.out (fun _ hk => ⟨hk.1.1, ⟨hk.2, hk.1.2⟩⟩)), (oB HB)⟩)
                rintro ⟨bO, bF, aT⟩ cU ⟨hS_, h0_, h1_, h2_, h3_, h4_, h5_⟩
                have eT : Aside0 (Kd.R (Kd.int .u8) 5 cU w.heap.size (fun k_ => some k_ ≠ (bF : Value).ownBlock ∧ some k_ ≠ (aT : Value).ownBlock) aJ aV) := ⟨h0_⟩
                have eU : Aside0 (Kd.R (Kd.int .u8) 5 cU w.heap.size (fun k_ => some k_ ≠ (aJ : Value).ownBlock ∧ some k_ ≠ (aT : Value).ownBlock) bF aW) := ⟨h1_⟩
                have eV : Aside0 (Kd.R (Kd.int .u8) 5 cU w.heap.size (fun k_ => some k_ ≠ (aJ : Value).ownBlock ∧ some k_ ≠ (bF : Value).ownBlock) aT aM) := ⟨h2_⟩
                have eW : Aside0 (Kd.V (Kd.int .u8) 5 cU w.heap.size (fun k_ => some k_ ≠ (aJ : Value).ownBlock ∧ some k_ ≠ (bF : Value).ownBlock ∧ some k_ ≠ (aT : Value).ownBlock) (.slice (some bL) aE.length dS) aE) := ⟨h3_⟩
                have eX : Aside0 (Kd.N (Kd.slice 5 (Kd.int .u8)) 24 cU w.heap.size (fun k_ => some k_ ≠ (aJ : Value).ownBlock ∧ some k_ ≠ (bF : Value).ownBlock ∧ some k_ ≠ (aT : Value).ownBlock) (.slice bA aH.length bC) aH) := ⟨h4_⟩
                have eY : Aside0 (Below w.heap.size w cU) := ⟨h5_⟩
                clear aD
                clear aA
                clear aC
                clear HB
                clear h0_ h1_ h2_ h3_ h4_ h5_
                have aC := eT
                have aU := eU
                have aG := eV
                have aA := eW
                have aD := eX
                have HB := eY
                clear eT eU eV eW eX eY
                have hHeld : cU.cell? bL = some (.int .u8 (rd aE 0)) := hS_
                obtain ⟨bB, bD, dU⟩ := Kd.R_slice aG.out
                (first | subst dU | (injection dU with f1_ f2_ f3_; have f4_ := f1_.symm; have f5_ := f3_.symm; clear f1_ f2_ f3_; subst f4_; subst f5_))
                refine norm_ (a' := ?_) ?_ ?_
                rotate_left
                ·simp only [putAll, Act.put, List.setIfInBounds_toArray, List.set_cons_zero, List.set_cons_succ]
                 rfl
                refine one_ (i := 8) (N := some 81) #[true, true, true, true, true, true, true, true, true, false, false, false] rfl rfl (one_of HT_.out oK) oD (fun K hK => ?_)
                refine Kd.R_append_rows_step (Kd.int .u8) (w0 := w) w.heap.size (by rfl) (.tmp 76) (.tmp 80) 24 5 (.int .u8 0) 1 rfl Try.underlying24 info5 rfl oD (by omega) bF aW aM _ _ _ (fun k_ => some k_ ≠ (aJ : Value).ownBlock ∧ some k_ ≠ (.slice bB aM.length bD : Value).ownBlock) (fun _ => False) rfl rfl ?aO ?aR (fun _ _ h => h) (fun _ h => h.elim) ?aF ?aB ?aS ?aL ?_
                (case aR => repeat (first | exact (Kd.R_reads' aG.out).2.2 | (with_reducible refine Kd.C_alloc ?_ _) | (with_reducible refine Kd.C_drewN ?_ _) | (with_reducible refine Kd.C_drew ?_)))
                (case aB => exact (oB HB))
                (case aF => exact (fun k_ hk => ⟨Kd.fresh' (Kd.R_lt (oR aC)) k_ hk, Kd.fresh' (Kd.R_lt (oR aG)) k_ hk⟩))
                (case aO => exact (oR aU))
                (case aS => exact (below_size (oB HB)))
                (case aL => have := LMc36.out; omega)
                intro fW gD ho hb hg hat
                rw [← dI.out] at ho
                have n_ := o2_ (Kd.N_afterv (ok := (fun k_ => some k_ ≠ (aJ : Value).ownBlock ∧ some k_ ≠ (.slice bB aM.length bD : Value).ownBlock)) (by (with_reducible repeat (first | apply Kd.N_alloc | apply Kd.N_drewN | apply Kd.N_drew)); exact Kd.N_mono aD.out (fun _ hk => ⟨⟨hk.1, hk.2.2⟩, hk.2.1⟩)) hg hat) (o2_ (Kd.V_afterv (ok := (fun k_ => some k_ ≠ (aJ : Value).ownBlock ∧ some k_ ≠ (.slice bB aM.length bD : Value).ownBlock)) (by (with_reducible repeat (first | apply Kd.V_alloc | apply Kd.V_drewN | apply Kd.V_drew)); exact Kd.V_mono aA.out (fun _ hk => ⟨⟨hk.1, hk.2.2⟩, hk.2.1⟩)) hg hat) (o2_ (Kd.R_after (ok := (fun k_ => some k_ ≠ (.slice bB aM.length bD : Value).ownBlock)) (by (with_reducible repeat (first | apply Kd.R_alloc | apply Kd.R_drewN | apply Kd.R_drew)); exact Kd.R_mono aC.out (fun _ hk => ⟨hk.2, hk.1⟩)) hg hat) (o2_ (Kd.R_after (ok := (fun k_ => some k_ ≠ (aJ : Value).ownBlock)) (oR aG) hg hat) (o2_ (hb) (o1_ (ho))))))
                clear aD aA aC aG HB aU
                obtain ⟨aD, aA, aC, aG, HB, bR⟩ := n_
                clear ho hb hg hat
                obtain ⟨dA, dT, dV⟩ := Kd.R_slice bR.out
                (first | subst dV | (injection dV with f1_ f2_ f3_; have f4_ := f1_.symm; have f5_ := f3_.symm; clear f1_ f2_ f3_; subst f4_; subst f5_))
                refine hK.out _ _ ((by obtain ⟨a_, e_, h_⟩ := Kd.at_int (Kd.V_reads' aA.out).2.2 0 (of_eq_true bM) (of_eq_true bN); cases e_; (try rw [show ((0 : Int)).toNat = 0 from rfl] at h_); (try rw [Addr.add_zero'] at h_); exact h_)) (fun hHeld => ?_)
                clear hK K
                refine norm_ (a' := ?_) ?_ ?_
                rotate_left
                ·show Act.put _ (some 81) _ = _
                 exact oT
                refine one_ (i := 9) (N := some 82) #[true, true, true, true, true, true, true, true, true, true, false, false] rfl rfl (one_of HT_.out oK) oD (fun K hK => ?_)
                refine Kd.N_lit_step (Kd.slice 5 (Kd.int .u8)) _ 24 ?hg (N' := 82) ?hd (xs := ([y440] : List (List Int))) (inner := [.slice dA y440.length dT]) (ok := (fun k_ => some k_ ≠ (.slice bA aH.length bC : Value).ownBlock ∧ some k_ ≠ (aJ : Value).ownBlock ∧ some k_ ≠ (.slice bB aM.length bD : Value).ownBlock)) (okp := (fun k_ => some k_ ≠ (.slice bA aH.length bC : Value).ownBlock ∧ some k_ ≠ (aJ : Value).ownBlock ∧ some k_ ≠ (.slice bB aM.length bD : Value).ownBlock)) ?hr ?hp (fun _ hk => hk) ((show ∀ k_, gD.heap.size ≤ k_ → (fun k_ => some k_ ≠ (.slice bA aH.length bC : Value).ownBlock ∧ some k_ ≠ (aJ : Value).ownBlock ∧ some k_ ≠ (.slice bB aM.length bD : Value).ownBlock) k_ from fun k_ hk => ⟨Kd.fresh' (Kd.N_lt (by (with_reducible repeat (first | apply Kd.N_alloc | apply Kd.N_drewN | apply Kd.N_drew)); exact aD.out)) k_ hk, Kd.fresh' (Kd.R_lt (oR aC)) k_ hk, Kd.fresh' (Kd.R_lt (oR aG)) k_ hk⟩) _ (Nat.le_refl _)) (Below.refl _ _) (Nat.le_refl _) (by simp) ?_; (case hd => rfl); (case hg => rfl); (case hr => first | (go_simp; done) | (go_simp; rfl)); (case hp => exact (Reps.one (show Kd.FK (Kd.slice 5 (Kd.int .u8)) _ _ y440 [.slice dA y440.length dT] from (Kd.FK_slice_mk (Kd.R_reads' (Kd.R_mono (ok' := (fun k_ => some k_ ≠ (.slice bA aH.length bC : Value).ownBlock ∧ some k_ ≠ (aJ : Value).ownBlock ∧ some k_ ≠ (.slice bB aM.length bD : Value).ownBlock)) (Kd.R_apart' (bR.out) (Kd.N_typed aD.out) oD) (fun k_ hk => ⟨hk.2, ⟨hk.1.1, hk.1.2⟩⟩))).2.1 (Kd.R_F (Kd.R_mono (ok' := (fun k_ => some k_ ≠ (.slice bA aH.length bC : Value).ownBlock ∧ some k_ ≠ (aJ : Value).ownBlock ∧ some k_ ≠ (.slice bB aM.length bD : Value).ownBlock)) (Kd.R_apart' (bR.out) (Kd.N_typed aD.out) oD) (fun k_ hk => ⟨hk.2, ⟨hk.1.1, hk.1.2⟩⟩))))) (Reps.none _ _)))
                intro fX gK ho51 hb hg_ hnew_
                have HS0_ := (hb.cell (World.block_lt_of_cell? _ _ (hHeld))).trans (hHeld)
                clear hg_ hnew_
                (first | rw [← cH.out] at ho51 | (simp only [Int.reduceToNat] at ho51; rw [← cH.out] at ho51))
                have n_ := o2_ (Kd.N_elder' (by (with_reducible repeat (first | apply Kd.N_alloc | apply Kd.N_drewN | apply Kd.N_drew)); exact aD.out) (Kd.N_base ho51) hb) (o2_ (Kd.V_elder' (oV aA) (Kd.N_base ho51) hb) (o2_ (Kd.R_below (oR aC) hb) (o2_ (Kd.R_below (oR aG) hb) (o2_ (Kd.N_lower ho51 (below_size (oB HB))) (o1_ (below_step (oB HB) hb))))))
                clear aD aA aC aG HB bR
                obtain ⟨aD, aA, aC, aG, bY, HB⟩ := n_
                clear hb ho51
                obtain ⟨fG, fM, dW⟩ := Kd.N_slice bY.out
                (first | subst dW | (injection dW with f1_ f2_ f3_; have f4_ := f1_.symm; have f5_ := f3_.symm; clear f1_ f2_ f3_; subst f4_; subst f5_))
                refine hK.out _ _ (HS0_) (fun hHeld => ?_)
                clear hK K
                refine norm_ (a' := ?_) ?_ ?_
                rotate_left
                ·show Act.put _ (some 82) _ = _
                 exact oT
                refine one_ (i := 10) (N := some 83) #[true, true, true, true, true, true, true, true, true, true, true, false] rfl rfl (one_of HT_.out oK) oD (fun K hK => ?_)
                refine Kd.N_append_rows_step (Kd.slice 5 (Kd.int .u8)) (w0 := w) w.heap.size (by rfl) (.tmp 73) (.tmp 82) 63 24 (.slice none 0 0) 24 rfl Try.underlying63 info24 rfl oD (by omega) (.slice bA aH.length bC) aH aP _ _ _ (fun k_ => some k_ ≠ (aJ : Value).ownBlock ∧ some k_ ≠ (.slice bB aM.length bD : Value).ownBlock) (fun k_ => ((fun k_ => some k_ ≠ (aJ : Value).ownBlock ∧ some k_ ≠ (.slice bB aM.length bD : Value).ownBlock)) k_ ∧ some k_ ≠ (.slice bA aH.length bC : Value).ownBlock) rfl rfl ?aO ?aR (fun _ hk => hk) ?aF ?aB ?aS ?aL ?_
                (case aR => exact (by skip; exact Kd.N_F (Kd.N_mono (ok' := (fun k_ => ((fun k_ => some k_ ≠ (aJ : Value).ownBlock ∧ some k_ ≠ (.slice bB aM.length bD : Value).ownBlock)) k_ ∧ some k_ ≠ (.slice bA aH.length bC : Value).ownBlock)) (bY.out) (fun k_ hk => ⟨⟨hk.2.1, hk.2.2⟩, hk.1⟩))))
                (case aB => exact (oB HB))
                (case aF => exact (fun k_ hk => ⟨Kd.fresh' (Kd.R_lt (oR aC)) k_ hk, Kd.fresh' (Kd.R_lt (oR aG)) k_ hk⟩))
                (case aO => exact (by (with_reducible repeat (first | apply Kd.N_alloc | apply Kd.N_drewN | apply Kd.N_drew)); exact Kd.N_mono aD.out (fun _ hk => ⟨hk.1.1.1, hk.1.1.2⟩)))
                (case aS => exact (below_size (oB HB)))
                (case aL => have := LMc37.out; omega)
                intro fY gL ho hb hg hat
                rw [← dJ.out] at ho
                have n_ := o2_ (Kd.R_over' (oR aC) (Kd.N_typed (by (with_reducible repeat (first | apply Kd.N_alloc | apply Kd.N_drewN | apply Kd.N_drew)); exact aD.out)) oD hg) (o2_ (hb) (o1_ (ho)))
                clear aC HB aD
                obtain ⟨aC, HB, dH⟩ := n_
                have aA := Aside0.mk (pg_last (fY := fY) (aJ := aJ) aA.out (of_decide_eq_true (eq_true_of_ne_false (by intro h_; have := of_eq_true bN; have := of_decide_eq_false h_; omega))) (fun _ hk => hk.1.1.1) (HXm.out _ rfl (by have := of_eq_true bN; omega)) hg hat)
                clear ho hb hg hat
                refine hK.out _ _ ((by obtain ⟨a_, e_, h_⟩ := Kd.at_int (Kd.V_reads' aA.out).2.2 0 (of_eq_true bM) (of_eq_true bN); cases e_; (try rw [show ((0 : Int)).toNat = 0 from rfl] at h_); (try rw [Addr.add_zero'] at h_); exact h_)) (fun hHeld => ?_)
                clear hK K
                refine norm_ (a' := ?_) ?_ ?_
                rotate_left
                ·show Act.put _ (some 83) _ = _
                 exact oT
                refine pure_ (i := 11) (N := some 5) (v := ?_) (a' := ?_) #[true, true, true, true, true, true, true, true, true, true, true, true] rfl rfl (any_of HT_.out oK) (fun _ _ _ h => h) (Or.inl ⟨by rfl, ?_⟩) ?_ ?_
                rotate_left
                ·intro w'
                 go_simp
                 with_reducible rfl
                rotate_left
                ·exact oT
                refine done_ (done_of HT_.out oK) ?_
                try go_wp2
                go_roundg kj19
                case measure => have := HK1.out; have := bT.out; omega
                case rel => exact ⟨(aV), (y446), (aE), (wrap64 (aI + 9)), oU, H', ⟨(by have := HK1.out; have := bT.out; omega)⟩, ⟨(by (with_reducible repeat (first | apply Kd.R_alloc | apply Kd.R_drewN | apply Kd.R_drew)); exact Kd.R_mono aC.out (fun _ hk => trivial))⟩, ⟨(by (with_reducible repeat (first | apply Kd.N_alloc | apply Kd.N_drewN | apply Kd.N_drew)); exact Kd.N_mono dH.out (fun _ hk => hk.1))⟩, ⟨(oV aA)⟩, ⟨(oB HB)⟩⟩
               ·rw [if_neg eC] at H
                exact absurd H (by simp)
              ·rw [if_neg eB] at H
               exact absurd H (by simp)
             ·rw [if_neg eA] at H
              exact absurd H (by simp)
            ·rw [if_neg dZ] at H
             exact absurd H (by simp)
           ·rw [if_neg cW] at H
            have dP : decide ((wrap64 (257 + (aH.length : Int))) < 512) = false := decide_eq_false cW
            clear cW
            have H' := Aside0.mk H
            clear H
            obtain ⟨fH, fN, eK⟩ := Kd.V_slice aA.out
            subst eK
            go_wp2_with (first | ((with_reducible refine gate_builtin (b := .append) (xs := #[.tmp 61, .tmp 62]) rfl ?_); (try (refine gate_guard (by rfl) ?_; dsimp only)); at_builtin; refine Kd.R_append_rows (Kd.int .u8) (w0 := w) w.heap.size rfl (.tmp 61) (.tmp 62) 24 5 (.int .u8 0) 1 rfl Try.underlying24 info5 rfl oD (by omega) u4 bH aE _ _ _ (fun _ => True) (fun _ => False) rfl rfl ?aO ?aR (fun _ _ h => h) (fun _ h => h.elim) ?aF ?aB ?aS ?aL ?_; (case aR => repeat (first | exact (Kd.V_reads' aA.out).2.2 | (with_reducible refine Kd.C_alloc ?_ _) | (with_reducible refine Kd.C_drewN ?_ _) | (with_reducible refine Kd.C_drew ?_))); (case aB => exact (oB HB)); (case aF => exact (fun _ _ => trivial)); (case aO => exact (oR aK)); (case aS => exact (below_size (oB HB))); (case aL => have := LMc31.out; omega); intro aJ gM ho hb hg hat; rw [← bU.out] at ho; have n_ := o2_ (Kd.N_afterv (ok := (fun _ => True)) (by (with_reducible repeat (first | apply Kd.N_alloc | apply Kd.N_drewN | apply Kd.N_drew)); exact Kd.N_mono aD.out (fun _ hk => ⟨trivial, hk⟩)) hg hat) (o2_ (Kd.V_afterv (ok := (fun k_ => some k_ ≠ (.slice bA aH.length bC : Value).ownBlock)) (by (with_reducible repeat (first | apply Kd.V_alloc | apply Kd.V_drewN | apply Kd.V_drew)); exact Kd.V_mono aA.out (fun _ hk => ⟨hk.2, hk.1⟩)) hg hat) (o2_ (hb) (o1_ (ho)))); clear aD aA HB aK; obtain ⟨aD, aA, HB, aC⟩ := n_; clear ho hb hg hat))
            go_roundg kj19
            case measure => have := HK1.out; have := bT.out; omega
            case rel => exact ⟨(aV), (aH), (aE), (wrap64 (aI + 9)), oU, H', ⟨(by have := HK1.out; have := bT.out; omega)⟩, ⟨(oR aC)⟩, ⟨(by (with_reducible repeat (first | apply Kd.N_alloc | apply Kd.N_drewN | apply Kd.N_drew)); exact Kd.N_mono aD.out (fun _ hk => hk.2))⟩, ⟨(by (with_reducible repeat (first | apply Kd.V_alloc | apply Kd.V_drewN | apply Kd.V_drew)); exact Kd.V_mono aA.out (fun _ hk => ⟨hk.2, hk.1⟩))⟩, ⟨(oB HB)⟩⟩
          ·rw [if_neg cV] at H
           have dN : decide (0 < (aN.length : Int)) = false := decide_eq_false cV
           have dO : decide (0 < aN.length) = false := decide_eq_false (by omega)
           clear cV
           have H' := Aside0.mk H
           clear H
           obtain ⟨fI, fO, eL⟩ := Kd.V_slice aA.out
           subst eL
           go_wp2_with (first | ((with_reducible refine gate_builtin (b := .append) (xs := #[.tmp 61, .tmp 62]) rfl ?_); (try (refine gate_guard (by rfl) ?_; dsimp only)); at_builtin; refine Kd.R_append_rows (Kd.int .u8) (w0 := w) w.heap.size rfl (.tmp 61) (.tmp 62) 24 5 (.int .u8 0) 1 rfl Try.underlying24 info5 rfl oD (by omega) u4 bH aE _ _ _ (fun _ => True) (fun _ => False) rfl rfl ?aO ?aR (fun _ _ h => h) (fun _ h => h.elim) ?aF ?aB ?aS ?aL ?_; (case aR => repeat (first | exact (Kd.V_reads' aA.out).2.2 | (with_reducible refine Kd.C_alloc ?_ _) | (with_reducible refine Kd.C_drewN ?_ _) | (with_reducible refine Kd.C_drew ?_))); (case aB => exact (oB HB)); (case aF => exact (fun _ _ => trivial)); (case aO => exact (oR aK)); (case aS => exact (below_size (oB HB))); (case aL => have := LMc31.out; omega); intro aJ gN ho hb hg hat; rw [← bU.out] at ho; have n_ := o2_ (Kd.N_afterv (ok := (fun _ => True)) (by (with_reducible repeat (first | apply Kd.N_alloc | apply Kd.N_drewN | apply Kd.N_drew)); exact Kd.N_mono aD.out (fun _ hk => ⟨trivial, hk⟩)) hg hat) (o2_ (Kd.V_afterv (ok := (fun k_ => some k_ ≠ (.slice bA aH.length bC : Value).ownBlock)) (by (with_reducible repeat (first | apply Kd.V_alloc | apply Kd.V_drewN | apply Kd.V_drew)); exact Kd.V_mono aA.out (fun _ hk => ⟨hk.2, hk.1⟩)) hg hat) (o2_ (hb) (o1_ (ho)))); clear aD aA HB aK; obtain ⟨aD, aA, HB, aC⟩ := n_; clear ho hb hg hat))
           go_roundg kj19
           case measure => have := HK1.out; have := bT.out; omega
           case rel => exact ⟨(aV), (aH), (aE), (wrap64 (aI + 9)), oU, H', ⟨(by have := HK1.out; have := bT.out; omega)⟩, ⟨(oR aC)⟩, ⟨(by (with_reducible repeat (first | apply Kd.N_alloc | apply Kd.N_drewN | apply Kd.N_drew)); exact Kd.N_mono aD.out (fun _ hk => hk.2))⟩, ⟨(by (with_reducible repeat (first | apply Kd.V_alloc | apply Kd.V_drewN | apply Kd.V_drew)); exact Kd.V_mono aA.out (fun _ hk => ⟨hk.2, hk.1⟩))⟩, ⟨(oB HB)⟩⟩
         ·rw [if_neg dY] at H
          exact absurd H (by simp)
    ·replace dK := Bool.eq_false_iff.mpr dK
     subst dK
     rw [if_neg (show ¬ (false = true) by decide)] at H
     obtain ⟨y411, hy411⟩ : ∃ y_ : List Int, y_ = (([] : List Int)) := ⟨_, rfl⟩
     replace H : (some (y411, false)) = some (r1, r2) := by first | (rw [hy411]; with_reducible exact H) | (have H2_ := (Option.bind_some _ _).symm.trans H; rw [hy411]; with_reducible exact H2_) | (have H2_ := (Option.bind_some _ _).symm.trans H; with_reducible exact H2_) | with_reducible exact H | (rw [hy411]; exact H) | exact H
     have cD := Aside0.mk hy411
     clear hy411
     simp only [Option.some.injEq, Prod.mk.injEq] at H
     obtain ⟨rfl, rfl⟩ := H
     go_wp2_with (first | ((with_reducible refine gate_callee (f := 47) rfl ?_); refine goesL_ (some 21) rfl rfl Try.func47 oK rfl #[.slice A0 l0.length c0, .int .i64 aI, .int .i64 9] rfl oA ?_; (with_reducible refine (spec_BitGet.calls k1 _ _ l0 aI 9 bE false _ ?side1 ?side2 A9.out).mono ?_); (case side1 => repeat (first | exact (Kd.C_below cR.out HB.out) | (with_reducible refine Kd.C_alloc ?_ _) | (with_reducible refine Kd.C_drewN ?_ _) | (with_reducible refine Kd.C_drew ?_))); (case side2 => exact cP.out); rintro e w' ⟨rfl, ⟨nd, rfl⟩⟩; refine ⟨_, rfl, ?_⟩) | ((with_reducible refine gate_dst (N := 26) rfl ?_); (try (refine gate_guard (by rfl) ?_; dsimp only)); refine Kd.R_lit (Kd.int .u8) _ 5 ?hg (N := 26) ?hd (xs := ([] : List Int)) (inner := []) (ok := fun _ => True) (okp := fun _ => True) ?hr ?hp (fun _ hk => hk) trivial (Below.refl _ _) (Nat.le_refl _) (by simp) ?_; (case hd => rfl); (case hg => rfl); (case hr => first | (go_simp; done) | (go_simp; rfl)); (case hp => exact (Reps.none _ _)); intro fS gO ho59 hb hg_ hnew_; clear hg_ hnew_; (first | rw [← cD.out] at ho59 | (simp only [Int.reduceToNat] at ho59; rw [← cD.out] at ho59)); have n_ := o2_ (Kd.R_elder' (oR aK) (Kd.R_base ho59) hb) (o2_ (Kd.R_lower (Kd.R_new' ho59 (Kd.R_lt (oR aK))) (below_size (oB HB))) (o1_ (below_step (oB HB) hb))); clear aK HB; obtain ⟨aK, dD, HB⟩ := n_; clear hb ho59))
     go_ret2
     exact ⟨_, by first | rfl | (simp [errW_none, errW_some] <;> rfl) | (simp [*, errW_none, errW_some] <;> rfl), by (with_reducible repeat (first | apply Kd.R_alloc | apply Kd.R_drewN | apply Kd.R_drew)); exact Kd.R_mono dD.out (fun _ hk => trivial), oB HB⟩
   ·rw [if_neg c8] at H
    have dQ : decide (aI < 3200) = false := decide_eq_false c8
    clear c8
    obtain ⟨y406, hy406⟩ : ∃ y_ : List Int, y_ = (([] : List Int)) := ⟨_, rfl⟩
    replace H : (some (y406, false)) = some (r1, r2) := by first | (rw [hy406]; with_reducible exact H) | (have H2_ := (Option.bind_some _ _).symm.trans H; rw [hy406]; with_reducible exact H2_) | (have H2_ := (Option.bind_some _ _).symm.trans H; with_reducible exact H2_) | with_reducible exact H | (rw [hy406]; exact H) | exact H
    have cC := Aside0.mk hy406
    clear hy406
    simp only [Option.some.injEq, Prod.mk.injEq] at H
    obtain ⟨rfl, rfl⟩ := H
    go_wp2_with (first | ((with_reducible refine gate_dst (N := 85) rfl ?_); (try (refine gate_guard (by rfl) ?_; dsimp only)); refine Kd.R_lit (Kd.int .u8) _ 5 ?hg (N := 85) ?hd (xs := ([] : List Int)) (inner := []) (ok := fun _ => True) (okp := fun _ => True) ?hr ?hp (fun _ hk => hk) trivial (Below.refl _ _) (Nat.le_refl _) (by simp) ?_; (case hd => rfl); (case hg => rfl); (case hr => first | (go_simp; done) | (go_simp; rfl)); (case hp => exact (Reps.none _ _)); intro fR gP ho61 hb hg_ hnew_; clear hg_ hnew_; (first | rw [← cC.out] at ho61 | (simp only [Int.reduceToNat] at ho61; rw [← cC.out] at ho61)); have n_ := o2_ (Kd.R_lower (Kd.R_new' ho61 (Kd.R_lt (oR aK))) (below_size (oB HB))) (o1_ (below_step (oB HB) hb)); clear HB; obtain ⟨dC, HB⟩ := n_; clear hb ho61))
    go_ret2
    exact ⟨_, by first | rfl | (simp [errW_none, errW_some] <;> rfl) | (simp [*, errW_none, errW_some] <;> rfl), by (with_reducible repeat (first | apply Kd.R_alloc | apply Kd.R_drewN | apply Kd.R_drew)); exact Kd.R_mono dC.out (fun _ hk => trivial), oB HB⟩


end Go.Proofs.Ytfnkaccncmjnaaa.X
