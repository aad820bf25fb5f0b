/- What functions of the program come to, each with its proof. No condition but what each theorem states. -/
import Derived.Test.YtjkaalcocgioaaaX0
import Derived.Test.YtjkaalcocgioaaaX1
import Derived.Test.YtjkaalcocgioaaaX6
import Derived.Test.YtjkaalcocgioaaaX10
import Derived.Test.YtjkaalcocgioaaaX11
namespace Go.Proofs.Ytjkaalcocgioaaa.X
open Go.RowKit Go.Proofs.YtjkaalcocgioaaaW.PrintWords Go.Proofs.YtjkaalcocgioaaaW.PrintLast Go.Proofs.YtjkaalcocgioaaaW.PrintMore Go.Proofs.Ytjkaalcocgioaaa.Hyb
attribute [local go_sem] max2_int min2_int max_two min_two max_three min_three max_four min_four
set_option linter.unusedVariables false
set_option linter.unusedSimpArgs false

/-! ### impl_OpsFold: function 8 -/
/-- A struct is stored whole into a block of its own. -/
theorem of_storeblk {P : Program} {ops : Array Oper} {rest : List Oper} {o : Oper} {a : Act} {Q : Exit → Act → World → Prop} {w0 W : World} {g t t' : Nat} {cs cs' : Array Value} (p x : Operand) (hN : o.dst = none) (hgd : o.guard = none) (ho : o.op = .store t p x)
    (haddr : a.eval p = .pointer (some ⟨g, 0, none⟩)) (hx : a.eval x = .agg cs') (hk : W.heap[g]? = some (.cells cs t' (0, 0))) (hsz : cs'.size = cs.size) (ht : (P.info? t).map (·.size) = some cs.size) (h1 : ∀ q ∈ cs'.toList, q.oneCell' = true) (hc : (Value.agg cs').cells = cs') (HB : Below w0.heap.size w0 W) (hge : w0.heap.size ≤ g)
    (h : ∀ w1, w1.heap[g]? = some (.cells cs' t' (0, 0)) → (∀ k, k ≠ g → w1.heap[k]? = W.heap[k]?) → Below w0.heap.size w0 w1 → wpList P ops Q rest a w1) : wpList P ops Q (o :: rest) a W := by
  have hlen : cs'.toList.length = cs.size := by rw [Array.length_toList, hsz]
  obtain ⟨cur', h3, h4, h5⟩ := setCells_row (g := g) cs'.toList 0 W cs hk (by rw [hlen]; omega)
  obtain ⟨s1, s2, s3, s4⟩ := setCells_same g cs'.toList 0 W
  have hcur : cur' = cs' := by
    apply Array.toList_inj.mp
    rw [h5, List.take_zero, List.nil_append, List.drop_of_length_le (by rw [hlen, Array.length_toList]; omega), List.append_nil]
  rw [hcur] at h3
  have hrun : (Instr.storeAt t (.pointer (some ⟨g, 0, none⟩)) (.agg cs')).run P W = .ok () (W.setCells g 0 cs'.toList) := run_store_run t _ cs'.toList hk (by rw [hc]) (by rw [hlen]; exact ht) (by rw [hlen]; omega) h1
  refine wpList_plain hgd fun K hK => ?_
  unfold Oper.wp execOp
  simp only [ho, haddr, hx, Sem.run_bind, Sem.run_pure, Result.andThen_ok, hrun]
  show K (a.put o.dst undef) _
  rw [hN]
  exact hK a _ (h _ h3 (fun k hk => setCells_far _ _ k hk) (HB.trans ⟨s1, s2, s3, by rw [s4]; exact Nat.le_refl _, fun k hk => setCells_far _ _ k (by omega)⟩))
theorem of_blk_far {w w1 : World} {g k : Nat} {o : Obj} (hf : ∀ k, k ≠ g → w1.heap[k]? = w.heap[k]?) (hk : k ≠ g) (h : w.heap[k]? = some o) : w1.heap[k]? = some o := (hf k hk).trans h
/-- A function that a value names. -/
def of_Named (kk : Nat) : Prop := ∃ fn, Try.prog.funcs[kk]? = some fn ∧ (fn.name == "runtime.NumGoroutine") = false ∧ fn.body.isSome = true
theorem of_Named.enters {kk : Nat} (h : of_Named kk) (args : Array Value) (w : World) : (callFunc kk args).run Try.prog w = .ok (.enter kk args) w := by
  obtain ⟨fn, h1, h2, h3⟩ := h
  exact enters_ h1 h2 h3 args w
theorem of_named {kk : Nat} {fn : Func} (h1 : Try.prog.funcs[kk]? = some fn) (h2 : (fn.name == "runtime.NumGoroutine") = false) (h3 : fn.body.isSome = true) : of_Named kk := ⟨fn, h1, h2, h3⟩
/-- How many operations a rule is for. -/
def of_size (j : Nat) : Nat := if j = 0 then 4 else 2
def of_all (kind : Int) (p : List S25) : Bool := p.all fun o => o.f0 == kind
def of_same (p : List S25) : Bool := (rd_T25 p 0).f0 == 7 && ((rd_T25 p 0).f0 == (rd_T25 p 1).f0 && ((rd_T25 p 0).f1 == (rd_T25 p 1).f1 && ((rd_T25 p 0).f2 == (rd_T25 p 1).f2 && ((rd_T25 p 0).f3 == (rd_T25 p 1).f3 && (rd_T25 p 0).f4 == (rd_T25 p 1).f4))))
/-- Whether a rule applies to operations. -/
def of_app : Nat → List S25 → Bool
 | 0, p => of_all 4 p
 | 1, p => of_all 2 p
 | 2, p => of_all 3 p
 | 3, p => of_all 5 p
 | 4, p => of_all 8 p
 | 5, p => of_same p
 | _, p => (impl_nested.f p).getD false
/-- What they become. -/
def of_bec : Nat → List S25 → List S25
 | 0, _ => []
 | 1, _ => []
 | 2, _ => []
 | 3, p => p.take 1
 | 4, p => p.take 1
 | 5, p => p.take 1
 | _, p => (impl_joined.f p).getD []
def of_Apps (ka : Nat) (ca : Array Value) (n : Nat) (p : List S25 → Bool) (w : World) : Prop :=
  ∀ (w' : World) (A : Option Addr) (c : Nat) (l : List S25), Below w.heap.size w w' → l.length = n → Kd.C k25 w' A l.length l → l.length ≤ c → Calls Try.prog ka (#[.slice A l.length c] ++ ca) w' fun e w'' => e = .returned (.bool (p l)) ∧ Below w'.heap.size w' w''
def of_Becs (kb : Nat) (cb : Array Value) (n : Nat) (q : List S25 → List S25) (w : World) : Prop :=
  ∀ (w' : World) (A : Option Addr) (c : Nat) (l : List S25), Below w.heap.size w w' → l.length = n → Kd.C k25 w' A l.length l → l.length ≤ c → Calls Try.prog kb (#[.slice A l.length c] ++ cb) w' fun e w'' => ∃ A' c', e = .returned (.slice A' (q l).length c') ∧ Kd.C k25 w'' A' (q l).length (q l) ∧ (q l).length ≤ c' ∧ Below w'.heap.size w' w''
theorem of_rd {l : List S25} {i : Nat} (h : i < l.length) : rd_T25 l (i : Int) = l[i] := by
  unfold rd_T25
  rw [Int.toNat_natCast, List.getD_eq_getElem?_getD, List.getElem?_eq_getElem h]; rfl
set_option maxHeartbeats 1000000 in
set_option maxRecDepth 100000 in
theorem of_allOf_calls (kind : Int) (w : World) : Calls Try.prog 36 #[.int .i64 kind] w fun e w' => ∃ g, e = .returned (.func (.func 45) #[] #[.pointer (some ⟨g, 0, none⟩)]) ∧ w'.heap[g]? = some (.cells #[.int .i64 kind] 3 (0, 0)) ∧ Below w.heap.size w w' := by
  go_enter Try.func36, Try.ntmps36
  go_wp2_with ((with_reducible refine gate_dst (N := 1) rfl ?_); refine box_event rfl (N := 1) rfl (cs := #[.int .i64 kind]) (t := 3) oS ?_; intro g1 hg_ W1 hk_ hb_; have aA := Aside0.mk hk_; have HBW1 := Aside0.mk (below_then (Below.refl w.heap.size w) (Below.refl w.heap.size w).size hb_); clear hk_ hb_ hg_)
  go_ret
  exact ⟨g1, rfl, aA.out, HBW1.out⟩
set_option maxHeartbeats 1000000 in
set_option maxRecDepth 100000 in
theorem of_none_becs (n : Nat) (w : World) : of_Becs 37 #[] n (fun _ => []) w := by
  intro w' A c l hb hl hC hc
  show Calls Try.prog 37 #[.slice A l.length c] w' _
  go_enter Try.func37, Try.ntmps37
  go_wp2
  go_ret
  exact ⟨none, 0, rfl, Kd.C_nil _ _, Nat.le_refl _, by first | exact Below.refl _ _ | exact below_drew1 (Below.refl _ _)⟩
set_option maxHeartbeats 1000000 in
set_option maxRecDepth 100000 in
theorem of_first_becs (n : Nat) (hn : 1 ≤ n) (w : World) : of_Becs 38 #[] n (fun p => p.take 1) w := by
  intro w' A c l hb hl hC hc
  show Calls Try.prog 38 #[.slice A l.length c] w' _
  have h1 : 1 ≤ l.length := by omega
  have hlt : (l.take 1).length = 1 := by rw [List.length_take]; omega
  obtain ⟨i0, hi0, _, hsz, _⟩ := info_parts info25
  have hcut := cut_to (P := Try.prog) 23 25 .i64 Try.underlying23 hi0 A l.length c 1 (by omega) (by omega) hc
  go_enter Try.func38, Try.ntmps38
  go_wp2
  go_ret
  exact ⟨A, c, by rw [hlt]; rfl, Kd.C_take (m := 1) hC h1, by rw [hlt]; omega, Below.refl _ _⟩
set_option maxHeartbeats 1000000 in
set_option maxRecDepth 100000 in
theorem of_nested_apps (w : World) : of_Apps 40 #[] 2 (fun p => (impl_nested.f p).getD false) w := by
  intro w' A c l hb hl hC hc
  have h : ∃ b, impl_nested.f l = some b := by
    unfold impl_nested.f
    rw [if_pos (by omega), if_pos (by omega)]
    repeat (first | exact ⟨_, rfl⟩ | split)
  obtain ⟨b, h⟩ := h
  refine (impl_nested.calls A c l b w' hC hc h).mono ?_
  rintro e w'' ⟨rfl, hb'⟩
  exact ⟨by dsimp only; rw [h]; rfl, hb'⟩
set_option maxHeartbeats 1000000 in
set_option maxRecDepth 100000 in
theorem of_joined_becs (w : World) : of_Becs 41 #[] 2 (fun p => (impl_joined.f p).getD []) w := by
  intro w' A c l hb hl hC hc
  have h : ∃ r, impl_joined.f l = some r := by
    unfold impl_joined.f
    rw [if_pos (by omega), if_pos (by omega)]
    exact ⟨_, rfl⟩
  obtain ⟨r, h⟩ := h
  refine (impl_joined.calls A c l r w' hC hc h).mono ?_
  rintro e w'' ⟨v, rfl, hr, hb'⟩
  obtain ⟨A', c', rfl⟩ := Kd.R_slice hr
  have e : (impl_joined.f l).getD [] = r := by rw [h]; rfl
  exact ⟨A', c', by simp only [e], by simp only [e]; exact (Kd.R_reads' hr).2.2, by simp only [e]; exact (Kd.R_reads' hr).2.1, hb'⟩
theorem of_all_take {kind : Int} {l : List S25} {y : Nat} (h : y < l.length) : of_all kind (l.take (y + 1)) = (of_all kind (l.take y) && (l[y].f0 == kind)) := by
  unfold of_all
  rw [List.take_succ_eq_append_getElem h, List.all_append]
  simp
set_option maxHeartbeats 1000000 in
set_option maxRecDepth 100000 in
theorem of_all_apps (g : Nat) (kind : Int) (n : Nat) (hn : n ≤ 100) (w : World) (hk : w.heap[g]? = some (.cells #[.int .i64 kind] 3 (0, 0))) : of_Apps 45 #[.pointer (some ⟨g, 0, none⟩)] n (of_all kind) w := by
  intro w' A c l hb hl hC hc
  subst hl
  have HK := Aside0.mk (blk_below hk hb)
  have HC := Aside0.mk hC
  have HB := Aside0.mk (Below.refl w'.heap.size w')
  clear hb hk hC
  show Calls Try.prog 45 #[.slice A l.length c, .pointer (some ⟨g, 0, none⟩)] w' _
  have hu25 := Try.underlying25
  go_enter Try.func45, Try.ntmps45
  go_wp2_with (fail)
  go_loopw [8] (fun i wr => ∃ y : Nat, y ≤ l.length ∧ i = .int .i64 (y : Int) ∧ Aside0 (of_all kind (l.take y) = true) ∧ Aside0 (wr.heap[g]? = some (.cells #[.int .i64 kind] 3 (0, 0))) ∧ Aside0 (Below w'.heap.size w' wr)) (fun i _ => l.length - (intOf i).toNat)
  case atStart => exact ⟨0, Nat.zero_le _, rfl, ⟨rfl⟩, HK, HB⟩
  case round =>
    obtain ⟨y, hy, rfl, HT, HK1, aC⟩ := hrel
    by_cases hlt : y < l.length
    ·obtain ⟨ad, had, c0, c1, c2, c3, c4⟩ := at_T25 (Kd.C_below HC.out aC.out) (y : Int) (Int.natCast_nonneg _) (by omega)
     cases had
     rw [Int.toNat_natCast] at c0 c1 c2 c3 c4
     have hx : l.take (y + 1) = l.take (y + 1) := rfl
     have hlt' : ((y : Int) < (l.length : Int)) = True := eq_true (by omega)
     by_cases he : (rd_T25 l (y : Int)).f0 = kind
     ·have e1 : ((rd_T25 l (y : Int)).f0 == kind) = true := by rw [he]; exact beq_self_eq_true _
      have e2 : decide ((rd_T25 l (y : Int)).f0 = kind) = true := decide_eq_true he
      go_wp2_with (first | ((with_reducible refine gate_dst (N := 5) rfl ?_); refine box_event rfl (N := 5) rfl (cs := #[.int .i64 0, .int .i64 0, .int .i64 0, .int .i64 0, .int .i64 0]) (t := 25) oS ?_; intro g1 hg_ W1 hk_ hb_; have aA := Aside0.mk hk_; have HBW1 := Aside0.mk (below_then aC.out aC.out.size hb_); have HGEg1 : Aside0 (w'.heap.size ≤ g1) := ⟨(by rw [hg_]; exact aC.out.size)⟩; have HNg1 := Aside0.mk (Nat.ne_of_lt (Nat.lt_of_lt_of_eq (blk_lt HK1.out) hg_.symm)); replace HK1 := Aside0.mk (blk_below HK1.out hb_); clear hk_ hb_ hg_) | ((with_reducible refine gate_ (.store 25 (.tmp 5) (.tmp 11)) rfl ?_); refine of_storeblk (t := 25) (t' := 25) (.tmp 5) (.tmp 11) rfl rfl rfl rfl rfl aA.out rfl oK (by intro q hq; simp only [List.mem_cons, List.not_mem_nil, or_false] at hq; rcases hq with rfl | rfl | rfl | rfl | rfl <;> rfl) rfl HBW1.out HGEg1.out ?_; intro W2 hk_ hf_ hb_; replace aA := Aside0.mk hk_; replace HBW1 := Aside0.mk hb_; replace HK1 := Aside0.mk (of_blk_far hf_ HNg1.out HK1.out); clear hk_ hb_ hf_; have z0 := blk_cell aA.out 0; have zk := blk_cell HK1.out 0; simp only [List.getElem?_toArray, List.getElem?_cons_zero, List.getElem?_cons_succ] at z0 zk))
      go_roundw
      case rel => exact ⟨y + 1, by omega, by go_num, ⟨(by rw [of_all_take hlt, HT.out, ← of_rd hlt, he]; simp)⟩, HK1, HBW1⟩
      case measure => simp [intOf]; omega
     ·have e1 : ((rd_T25 l (y : Int)).f0 == kind) = false := beq_eq_false_iff_ne.mpr he
      have e2 : decide ((rd_T25 l (y : Int)).f0 = kind) = false := decide_eq_false he
      go_wp2_with (first | ((with_reducible refine gate_dst (N := 5) rfl ?_); refine box_event rfl (N := 5) rfl (cs := #[.int .i64 0, .int .i64 0, .int .i64 0, .int .i64 0, .int .i64 0]) (t := 25) oS ?_; intro g1 hg_ W1 hk_ hb_; have aA := Aside0.mk hk_; have HBW1 := Aside0.mk (below_then aC.out aC.out.size hb_); have HGEg1 : Aside0 (w'.heap.size ≤ g1) := ⟨(by rw [hg_]; exact aC.out.size)⟩; have HNg1 := Aside0.mk (Nat.ne_of_lt (Nat.lt_of_lt_of_eq (blk_lt HK1.out) hg_.symm)); replace HK1 := Aside0.mk (blk_below HK1.out hb_); clear hk_ hb_ hg_) | ((with_reducible refine gate_ (.store 25 (.tmp 5) (.tmp 11)) rfl ?_); refine of_storeblk (t := 25) (t' := 25) (.tmp 5) (.tmp 11) rfl rfl rfl rfl rfl aA.out rfl oK (by intro q hq; simp only [List.mem_cons, List.not_mem_nil, or_false] at hq; rcases hq with rfl | rfl | rfl | rfl | rfl <;> rfl) rfl HBW1.out HGEg1.out ?_; intro W2 hk_ hf_ hb_; replace aA := Aside0.mk hk_; replace HBW1 := Aside0.mk hb_; replace HK1 := Aside0.mk (of_blk_far hf_ HNg1.out HK1.out); clear hk_ hb_ hf_; have z0 := blk_cell aA.out 0; have zk := blk_cell HK1.out 0; simp only [List.getElem?_toArray, List.getElem?_cons_zero, List.getElem?_cons_succ] at z0 zk))
      go_ret
      have hf : of_all kind l = false := by
       unfold of_all
       rw [List.all_eq_false]
       exact ⟨l[y], List.getElem_mem _, by rw [← of_rd hlt, e1]; simp⟩
      exact ⟨by rw [hf]; rfl, HBW1.out⟩
    ·obtain rfl : y = l.length := by omega
     go_wp2_with (fail)
     go_ret
     exact ⟨by have := HT.out; rw [List.take_of_length_le (Nat.le_refl _)] at this; rw [this]; rfl, aC.out⟩
attribute [local go_sem high] eqA25
set_option maxHeartbeats 1000000 in
set_option maxRecDepth 100000 in
theorem of_same_apps (w : World) : of_Apps 39 #[] 2 of_same w := by
  intro w' A c l hb hl hC hc
  have hu25 := Try.underlying25
  show Calls Try.prog 39 #[.slice A l.length c] w' _
  obtain ⟨ad, had, c0, c1, c2, c3, c4⟩ := at_T25 hC 0 (by omega) (by omega)
  obtain ⟨ad', had', d0, d1, d2, d3, d4⟩ := at_T25 hC 1 (by omega) (by omega)
  subst had
  obtain rfl : ad = ad' := by injection had'
  simp only [show (0 : Int).toNat = 0 from rfl, Nat.zero_mul, Addr.add_zero'] at c0 c1 c2 c3 c4
  simp only [show (1 : Int).toNat = 1 from rfl, Nat.one_mul, Nat.reduceEqDiff, Go.Addr.add, ↓reduceIte] at d0 d1 d2 d3 d4
  have hl0 : ((0 : Int) < (l.length : Int)) = True := eq_true (by omega)
  have hl1 : ((1 : Int) < (l.length : Int)) = True := eq_true (by omega)
  have bL : (0 < l.length) = True := eq_true (by omega)
  have bM : (1 < l.length) = True := eq_true (by omega)
  by_cases he : (rd_T25 l 0).f0 = 7
  · have e1 : ((rd_T25 l 0).f0 == 7) = true := by rw [he]; rfl
    have e2 : decide ((rd_T25 l 0).f0 = 7) = true := decide_eq_true he
    go_enter Try.func39, Try.ntmps39
    go_wp2
    refine start_ (n := 15) (S := (fun w'' => w''.cell? ad = some (.int .i64 (rd_T25 l 0).f0) ∧ w''.cell? ⟨ad.block, ad.off + 1, none⟩ = some (.int .i64 (rd_T25 l 0).f1) ∧ w''.cell? ⟨ad.block, ad.off + 2, none⟩ = some (.int .i64 (rd_T25 l 0).f2) ∧ w''.cell? ⟨ad.block, ad.off + 3, none⟩ = some (.int .i64 (rd_T25 l 0).f3) ∧ w''.cell? ⟨ad.block, ad.off + 4, none⟩ = some (.int .i64 (rd_T25 l 0).f4) ∧ w''.cell? ⟨ad.block, ad.off + 5, none⟩ = some (.int .i64 (rd_T25 l 1).f0) ∧ w''.cell? ⟨ad.block, ad.off + 5 + 1, none⟩ = some (.int .i64 (rd_T25 l 1).f1) ∧ w''.cell? ⟨ad.block, ad.off + 5 + 2, none⟩ = some (.int .i64 (rd_T25 l 1).f2) ∧ w''.cell? ⟨ad.block, ad.off + 5 + 3, none⟩ = some (.int .i64 (rd_T25 l 1).f3) ∧ w''.cell? ⟨ad.block, ad.off + 5 + 4, none⟩ = some (.int .i64 (rd_T25 l 1).f4))) (ds := []) #[false, false, false, false, false, false, false, false, false, false, false, false, false, false, false] oK rfl rfl ⟨c0, c1, c2, c3, c4, d0, d1, d2, d3, d4⟩ (fun hHeld => ?_)
    refine pure_ (i := 0) (N := (some 3)) (v := ?_) (a' := ?_) #[true, false, false, false, false, false, false, false, false, false, false, false, false, false, false] rfl rfl oK (fun _ _ _ h => h) (Or.inl ⟨by rfl, ?_⟩) ?_ ?_
    rotate_left
    ·intro w'
     go_simp
     with_reducible rfl
    rotate_left
    ·exact oT
    refine pure_ (i := 1) (N := (some 4)) (v := ?_) (a' := ?_) #[true, true, false, false, false, false, false, false, false, false, false, false, false, false, false] rfl rfl oK (fun _ _ _ h => h) (Or.inl ⟨by rfl, ?_⟩) ?_ ?_
    rotate_left
    ·intro w'
     go_simp
     with_reducible rfl
    rotate_left
    ·exact oT
    refine pure_ (i := 2) (N := (some 5)) (v := ?_) (a' := ?_) #[true, true, true, false, false, false, false, false, false, false, false, false, false, false, false] rfl rfl oK (fun _ _ _ h => h) (Or.inl ⟨by rfl, ?_⟩) ?_ ?_
    rotate_left
    ·intro w'
     go_simp
     with_reducible rfl
    rotate_left
    ·exact oT
    refine take_ (i := 3) (N := (some 6)) (v := ?_) (a' := ?_) #[true, true, true, true, false, false, false, false, false, false, false, false, false, false, false] rfl rfl oK (fun _ _ _ h => h) (Or.inl ⟨by rfl, ?_⟩) hHeld ?_ ?_
    rotate_left
    ·intro w' s0
     go_simp
     with_reducible rfl
    rotate_left
    ·exact oT
    refine pure_ (i := 4) (N := (some 7)) (v := ?_) (a' := ?_) #[true, true, true, true, true, false, false, false, false, false, false, false, false, false, false] rfl rfl oK (fun _ _ _ h => h) (Or.inl ⟨by rfl, ?_⟩) ?_ ?_
    rotate_left
    ·intro w'
     go_simp
     with_reducible rfl
    rotate_left
    ·exact oT
    refine pure_ (i := 5) (N := (some 8)) (v := ?_) (a' := ?_) #[true, true, true, true, true, true, false, false, false, false, false, false, false, false, false] rfl rfl oK (fun _ _ _ h => h) (Or.inl ⟨by rfl, ?_⟩) ?_ ?_
    rotate_left
    ·intro w'
     go_simp
     with_reducible rfl
    rotate_left
    ·exact oT
    refine pure_ (i := 6) (N := (some 9)) (v := ?_) (a' := ?_) #[true, true, true, true, true, true, true, false, false, false, false, false, false, false, false] rfl rfl oK (fun _ _ _ h => h) (Or.inl ⟨by rfl, ?_⟩) ?_ ?_
    rotate_left
    ·intro w'
     go_simp
     with_reducible rfl
    rotate_left
    ·exact oT
    refine pure_ (i := 7) (N := (some 10)) (v := ?_) (a' := ?_) #[true, true, true, true, true, true, true, true, false, false, false, false, false, false, false] rfl rfl oK (fun _ _ _ h => h) (Or.inl ⟨by rfl, ?_⟩) ?_ ?_
    rotate_left
    ·intro w'
     go_simp
     with_reducible rfl
    rotate_left
    ·exact oT
    refine take_ (i := 8) (N := (some 11)) (v := ?_) (a' := ?_) #[true, true, true, true, true, true, true, true, true, false, false, false, false, false, false] rfl rfl oK (fun _ _ _ h => h) (Or.inl ⟨by rfl, ?_⟩) hHeld ?_ ?_
    rotate_left
    ·intro w' s0
     go_simp
     with_reducible rfl
    rotate_left
    ·exact oT
    refine pure_ (i := 9) (N := (some 12)) (v := ?_) (a' := ?_) #[true, true, true, true, true, true, true, true, true, true, false, false, false, false, false] rfl rfl oK (fun _ _ _ h => h) (Or.inl ⟨by rfl, ?_⟩) ?_ ?_
    rotate_left
    ·intro w'
     go_simp
     with_reducible rfl
    rotate_left
    ·exact oT
    refine pure_ (i := 10) (N := (some 13)) (v := ?_) (a' := ?_) #[true, true, true, true, true, true, true, true, true, true, true, false, false, false, false] rfl rfl oK (fun _ _ _ h => h) (Or.inl ⟨by rfl, ?_⟩) ?_ ?_
    rotate_left
    ·intro w'
     go_simp
     with_reducible rfl
    rotate_left
    ·exact oT
    refine take_ (i := 11) (N := (some 14)) (v := ?_) (a' := ?_) #[true, true, true, true, true, true, true, true, true, true, true, true, false, false, false] rfl rfl oK (fun _ _ _ h => h) (Or.inl ⟨by rfl, ?_⟩) hHeld ?_ ?_
    rotate_left
    ·intro w' s0
     go_simp
     with_reducible rfl
    rotate_left
    ·exact oT
    refine pure_ (i := 12) (N := (some 15)) (v := ?_) (a' := ?_) #[true, true, true, true, true, true, true, true, true, true, true, true, true, false, false] rfl rfl oK (fun _ _ _ h => h) (Or.inl ⟨by rfl, ?_⟩) ?_ ?_
    rotate_left
    ·intro w'
     go_simp
     with_reducible rfl
    rotate_left
    ·exact oT
    refine pure_ (i := 13) (N := (some 16)) (v := ?_) (a' := ?_) #[true, true, true, true, true, true, true, true, true, true, true, true, true, true, false] rfl rfl oK (fun _ _ _ h => h) (Or.inl ⟨by rfl, ?_⟩) ?_ ?_
    rotate_left
    ·intro w'
     go_simp
     with_reducible rfl
    rotate_left
    ·exact oT
    refine pure_ (i := 14) (N := (some 2)) (v := ?_) (a' := ?_) #[true, true, true, true, true, true, true, true, true, true, true, true, true, true, true] rfl rfl oK (fun _ _ _ h => h) (Or.inl ⟨by rfl, ?_⟩) ?_ ?_
    rotate_left
    ·intro w'
     go_simp
     with_reducible rfl
    rotate_left
    ·exact oT
    refine done_ oK ?_
    go_wp2
    go_ret
    exact ⟨by unfold of_same; rw [e1, Bool.true_and, he]; rfl, by first | exact Below.refl _ _ | exact below_drew1 (Below.refl _ _)⟩
  · have e1 : ((rd_T25 l 0).f0 == 7) = false := beq_eq_false_iff_ne.mpr he
    have e2 : decide ((rd_T25 l 0).f0 = 7) = false := decide_eq_false he
    go_enter Try.func39, Try.ntmps39
    go_wp2
    refine start_ (n := 15) (S := (fun w'' => w''.cell? ad = some (.int .i64 (rd_T25 l 0).f0) ∧ w''.cell? ⟨ad.block, ad.off + 1, none⟩ = some (.int .i64 (rd_T25 l 0).f1) ∧ w''.cell? ⟨ad.block, ad.off + 2, none⟩ = some (.int .i64 (rd_T25 l 0).f2) ∧ w''.cell? ⟨ad.block, ad.off + 3, none⟩ = some (.int .i64 (rd_T25 l 0).f3) ∧ w''.cell? ⟨ad.block, ad.off + 4, none⟩ = some (.int .i64 (rd_T25 l 0).f4) ∧ w''.cell? ⟨ad.block, ad.off + 5, none⟩ = some (.int .i64 (rd_T25 l 1).f0) ∧ w''.cell? ⟨ad.block, ad.off + 5 + 1, none⟩ = some (.int .i64 (rd_T25 l 1).f1) ∧ w''.cell? ⟨ad.block, ad.off + 5 + 2, none⟩ = some (.int .i64 (rd_T25 l 1).f2) ∧ w''.cell? ⟨ad.block, ad.off + 5 + 3, none⟩ = some (.int .i64 (rd_T25 l 1).f3) ∧ w''.cell? ⟨ad.block, ad.off + 5 + 4, none⟩ = some (.int .i64 (rd_T25 l 1).f4))) (ds := []) #[false, false, false, false, false, false, false, false, false, false, false, false, false, false, false] oK rfl rfl ⟨c0, c1, c2, c3, c4, d0, d1, d2, d3, d4⟩ (fun hHeld => ?_)
    refine pure_ (i := 0) (N := (some 3)) (v := ?_) (a' := ?_) #[true, false, false, false, false, false, false, false, false, false, false, false, false, false, false] rfl rfl oK (fun _ _ _ h => h) (Or.inl ⟨by rfl, ?_⟩) ?_ ?_
    rotate_left
    ·intro w'
     go_simp
     with_reducible rfl
    rotate_left
    ·exact oT
    refine pure_ (i := 1) (N := (some 4)) (v := ?_) (a' := ?_) #[true, true, false, false, false, false, false, false, false, false, false, false, false, false, false] rfl rfl oK (fun _ _ _ h => h) (Or.inl ⟨by rfl, ?_⟩) ?_ ?_
    rotate_left
    ·intro w'
     go_simp
     with_reducible rfl
    rotate_left
    ·exact oT
    refine pure_ (i := 2) (N := (some 5)) (v := ?_) (a' := ?_) #[true, true, true, false, false, false, false, false, false, false, false, false, false, false, false] rfl rfl oK (fun _ _ _ h => h) (Or.inl ⟨by rfl, ?_⟩) ?_ ?_
    rotate_left
    ·intro w'
     go_simp
     with_reducible rfl
    rotate_left
    ·exact oT
    refine take_ (i := 3) (N := (some 6)) (v := ?_) (a' := ?_) #[true, true, true, true, false, false, false, false, false, false, false, false, false, false, false] rfl rfl oK (fun _ _ _ h => h) (Or.inl ⟨by rfl, ?_⟩) hHeld ?_ ?_
    rotate_left
    ·intro w' s0
     go_simp
     with_reducible rfl
    rotate_left
    ·exact oT
    refine pure_ (i := 4) (N := (some 7)) (v := ?_) (a' := ?_) #[true, true, true, true, true, false, false, false, false, false, false, false, false, false, false] rfl rfl oK (fun _ _ _ h => h) (Or.inl ⟨by rfl, ?_⟩) ?_ ?_
    rotate_left
    ·intro w'
     go_simp
     with_reducible rfl
    rotate_left
    ·exact oT
    refine pure_ (i := 5) (N := (some 8)) (v := ?_) (a' := ?_) #[true, true, true, true, true, true, false, false, false, false, false, false, false, false, false] rfl rfl oK (fun _ _ _ h => h) (Or.inl ⟨by rfl, ?_⟩) ?_ ?_
    rotate_left
    ·intro w'
     go_simp
     with_reducible rfl
    rotate_left
    ·exact oT
    refine pure_ (i := 6) (N := (some 9)) (v := undef) (a' := ?_) #[true, true, true, true, true, true, true, false, false, false, false, false, false, false, false] rfl rfl oK (fun _ _ _ h => h) (Or.inr ⟨by rfl, rfl⟩) ?_ ?_
    rotate_left
    ·exact oT
    refine pure_ (i := 7) (N := (some 10)) (v := undef) (a' := ?_) #[true, true, true, true, true, true, true, true, false, false, false, false, false, false, false] rfl rfl oK (fun _ _ _ h => h) (Or.inr ⟨by rfl, rfl⟩) ?_ ?_
    rotate_left
    ·exact oT
    refine pure_ (i := 8) (N := (some 11)) (v := undef) (a' := ?_) #[true, true, true, true, true, true, true, true, true, false, false, false, false, false, false] rfl rfl oK (fun _ _ _ h => h) (Or.inr ⟨by rfl, rfl⟩) ?_ ?_
    rotate_left
    ·exact oT
    refine pure_ (i := 9) (N := (some 12)) (v := undef) (a' := ?_) #[true, true, true, true, true, true, true, true, true, true, false, false, false, false, false] rfl rfl oK (fun _ _ _ h => h) (Or.inr ⟨by rfl, rfl⟩) ?_ ?_
    rotate_left
    ·exact oT
    refine pure_ (i := 10) (N := (some 13)) (v := undef) (a' := ?_) #[true, true, true, true, true, true, true, true, true, true, true, false, false, false, false] rfl rfl oK (fun _ _ _ h => h) (Or.inr ⟨by rfl, rfl⟩) ?_ ?_
    rotate_left
    ·exact oT
    refine pure_ (i := 11) (N := (some 14)) (v := undef) (a' := ?_) #[true, true, true, true, true, true, true, true, true, true, true, true, false, false, false] rfl rfl oK (fun _ _ _ h => h) (Or.inr ⟨by rfl, rfl⟩) ?_ ?_
    rotate_left
    ·exact oT
    refine pure_ (i := 12) (N := (some 15)) (v := undef) (a' := ?_) #[true, true, true, true, true, true, true, true, true, true, true, true, true, false, false] rfl rfl oK (fun _ _ _ h => h) (Or.inr ⟨by rfl, rfl⟩) ?_ ?_
    rotate_left
    ·exact oT
    refine pure_ (i := 13) (N := (some 16)) (v := ?_) (a' := ?_) #[true, true, true, true, true, true, true, true, true, true, true, true, true, true, false] rfl rfl oK (fun _ _ _ h => h) (Or.inl ⟨by rfl, ?_⟩) ?_ ?_
    rotate_left
    ·intro w'
     go_simp
     with_reducible rfl
    rotate_left
    ·exact oT
    refine pure_ (i := 14) (N := (some 2)) (v := ?_) (a' := ?_) #[true, true, true, true, true, true, true, true, true, true, true, true, true, true, true] rfl rfl oK (fun _ _ _ h => h) (Or.inl ⟨by rfl, ?_⟩) ?_ ?_
    rotate_left
    ·intro w'
     go_simp
     with_reducible rfl
    rotate_left
    ·exact oT
    refine done_ oK ?_
    go_wp2
    go_ret
    exact ⟨by unfold of_same; rw [e1, Bool.false_and]; rfl, by first | exact Below.refl _ _ | exact below_drew1 (Below.refl _ _)⟩
/-- What the table of rules is, in memory and by what its functions do. -/
def of_Rules (w : World) (ad : Addr) : Prop := ∀ j : Nat, j < 7 → ∃ ka ca kb cb, of_Named ka ∧ of_Named kb ∧ w.cell? (ad.add (j * 3)) = some (.int .i64 ((of_size j : Nat) : Int)) ∧ w.cell? ⟨(ad.add (j * 3)).block, (ad.add (j * 3)).off + 1, none⟩ = some (.func (.func ka) #[] ca) ∧ w.cell? ⟨(ad.add (j * 3)).block, (ad.add (j * 3)).off + 2, none⟩ = some (.func (.func kb) #[] cb) ∧ of_Apps ka ca (of_size j) (of_app j) w ∧ of_Becs kb cb (of_size j) (of_bec j) w
theorem of_Apps.below {ka : Nat} {ca : Array Value} {n : Nat} {p : List S25 → Bool} {w w1 : World} (h : of_Apps ka ca n p w) (hb : Below w.heap.size w w1) : of_Apps ka ca n p w1 := fun w' A c l hb' hl hC hc => h w' A c l (hb.trans (hb'.mono hb.size)) hl hC hc
theorem of_Becs.below {ka : Nat} {ca : Array Value} {n : Nat} {p : List S25 → List S25} {w w1 : World} (h : of_Becs ka ca n p w) (hb : Below w.heap.size w w1) : of_Becs ka ca n p w1 := fun w' A c l hb' hl hC hc => h w' A c l (hb.trans (hb'.mono hb.size)) hl hC hc
theorem of_Rules.below {w w1 : World} {ad : Addr} (h : of_Rules w ad) (hb : Below w.heap.size w w1) : of_Rules w1 ad := fun j hj => by
  obtain ⟨ka, ca, kb, cb, n1, n2, c0, c1, c2, a, b⟩ := h j hj
  exact ⟨ka, ca, kb, cb, n1, n2, (hb.cell (World.block_lt_of_cell? w _ c0)).trans c0, (hb.cell (World.block_lt_of_cell? w _ c1)).trans c1, (hb.cell (World.block_lt_of_cell? w _ c2)).trans c2, a.below hb, b.below hb⟩
set_option maxHeartbeats 1000000 in
set_option maxRecDepth 100000 in
theorem of_rules_calls (w : World) : Calls Try.prog 21 #[] w fun e w' => ∃ ad, e = .returned (.slice (some ad) 7 7) ∧ of_Rules w' ad ∧ Below w.heap.size w w' := by
  have hu57 := Try.underlying57
  have hu38 := Try.underlying38
  have aZ := Aside0.mk (Below.refl w.heap.size w)
  go_enter Try.func21, Try.ntmps21
  go_wp2_with (fail)
  refine (of_allOf_calls 4 _).mono ?_
  rintro e w1 ⟨g1, rfl, hk1, hb1⟩
  have aC := Aside0.mk (below_then aZ.out aZ.out.size hb1)
  have HK1 := Aside0.mk hk1
  clear hk1 hb1
  go_wp2_with (fail)
  refine (of_allOf_calls 2 _).mono ?_
  rintro e w2 ⟨g2, rfl, hk2, hb2⟩
  have aD := Aside0.mk (below_then aC.out aC.out.size hb2)
  have HK2 := Aside0.mk hk2
  replace HK1 := Aside0.mk (blk_below HK1.out hb2)
  clear hk2 hb2
  go_wp2_with (fail)
  refine (of_allOf_calls 3 _).mono ?_
  rintro e w3 ⟨g3, rfl, hk3, hb3⟩
  have aE := Aside0.mk (below_then aD.out aD.out.size hb3)
  have HK3 := Aside0.mk hk3
  replace HK1 := Aside0.mk (blk_below HK1.out hb3)
  replace HK2 := Aside0.mk (blk_below HK2.out hb3)
  clear hk3 hb3
  go_wp2_with (fail)
  refine (of_allOf_calls 5 _).mono ?_
  rintro e w4 ⟨g4, rfl, hk4, hb4⟩
  have aG := Aside0.mk (below_then aE.out aE.out.size hb4)
  have HK4 := Aside0.mk hk4
  replace HK1 := Aside0.mk (blk_below HK1.out hb4)
  replace HK2 := Aside0.mk (blk_below HK2.out hb4)
  replace HK3 := Aside0.mk (blk_below HK3.out hb4)
  clear hk4 hb4
  go_wp2_with (fail)
  refine (of_allOf_calls 8 _).mono ?_
  rintro e w5 ⟨g5, rfl, hk5, hb5⟩
  have aH := Aside0.mk (below_then aG.out aG.out.size hb5)
  have HK5 := Aside0.mk hk5
  replace HK1 := Aside0.mk (blk_below HK1.out hb5)
  replace HK2 := Aside0.mk (blk_below HK2.out hb5)
  replace HK3 := Aside0.mk (blk_below HK3.out hb5)
  replace HK4 := Aside0.mk (blk_below HK4.out hb5)
  clear hk5 hb5
  go_wp2_with (fail)
  go_ret
  refine ⟨_, rfl, ?_, below_alloc aH.out _⟩
  have hb6 := below_alloc (Below.refl w5.heap.size w5) (.cells #[.int .i64 4, .func (.func 45) #[] #[.pointer (some ⟨g1, 0, none⟩)], .func (.func 37) #[] #[], .int .i64 2, .func (.func 45) #[] #[.pointer (some ⟨g2, 0, none⟩)], .func (.func 37) #[] #[], .int .i64 2, .func (.func 45) #[] #[.pointer (some ⟨g3, 0, none⟩)], .func (.func 37) #[] #[], .int .i64 2, .func (.func 45) #[] #[.pointer (some ⟨g4, 0, none⟩)], .func (.func 38) #[] #[], .int .i64 2, .func (.func 45) #[] #[.pointer (some ⟨g5, 0, none⟩)], .func (.func 38) #[] #[], .int .i64 2, .func (.func 39) #[] #[], .func (.func 38) #[] #[], .int .i64 2, .func (.func 40) #[] #[], .func (.func 41) #[] #[]] 57)
  have HS := Aside0.mk (blk_new w5 (.cells #[.int .i64 4, .func (.func 45) #[] #[.pointer (some ⟨g1, 0, none⟩)], .func (.func 37) #[] #[], .int .i64 2, .func (.func 45) #[] #[.pointer (some ⟨g2, 0, none⟩)], .func (.func 37) #[] #[], .int .i64 2, .func (.func 45) #[] #[.pointer (some ⟨g3, 0, none⟩)], .func (.func 37) #[] #[], .int .i64 2, .func (.func 45) #[] #[.pointer (some ⟨g4, 0, none⟩)], .func (.func 38) #[] #[], .int .i64 2, .func (.func 45) #[] #[.pointer (some ⟨g5, 0, none⟩)], .func (.func 38) #[] #[], .int .i64 2, .func (.func 39) #[] #[], .func (.func 38) #[] #[], .int .i64 2, .func (.func 40) #[] #[], .func (.func 41) #[] #[]] 57))
  generalize w5.alloc _ = w6 at hb6 HS ⊢
  have hs := HS.out
  generalize hg6 : w5.heap.size = g6 at hs ⊢
  intro j hj
  have aK := of_named Try.func45 oK rfl
  have aX := of_named Try.func37 oK rfl
  have aY := of_named Try.func38 oK rfl
  have bG := of_named Try.func39 oK rfl
  have bH := of_named Try.func40 oK rfl
  have bI := of_named Try.func41 oK rfl
  have K1 := blk_below HK1.out hb6
  have K2 := blk_below HK2.out hb6
  have K3 := blk_below HK3.out hb6
  have K4 := blk_below HK4.out hb6
  have K5 := blk_below HK5.out hb6
  have H := hs
  match j, hj with
  | 0, _ => exact ⟨45, _, 37, _, aK, aX, (blk_cell H 0).trans rfl, (blk_cell H 1).trans rfl, (blk_cell H 2).trans rfl, of_all_apps g1 4 4 oD w6 K1, of_none_becs 4 w6⟩
  | 1, _ => exact ⟨45, _, 37, _, aK, aX, (blk_cell H 3).trans rfl, (blk_cell H 4).trans rfl, (blk_cell H 5).trans rfl, of_all_apps g2 2 2 oD w6 K2, of_none_becs 2 w6⟩
  | 2, _ => exact ⟨45, _, 37, _, aK, aX, (blk_cell H 6).trans rfl, (blk_cell H 7).trans rfl, (blk_cell H 8).trans rfl, of_all_apps g3 3 2 oD w6 K3, of_none_becs 2 w6⟩
  | 3, _ => exact ⟨45, _, 38, _, aK, aY, (blk_cell H 9).trans rfl, (blk_cell H 10).trans rfl, (blk_cell H 11).trans rfl, of_all_apps g4 5 2 oD w6 K4, of_first_becs 2 oD w6⟩
  | 4, _ => exact ⟨45, _, 38, _, aK, aY, (blk_cell H 12).trans rfl, (blk_cell H 13).trans rfl, (blk_cell H 14).trans rfl, of_all_apps g5 8 2 oD w6 K5, of_first_becs 2 oD w6⟩
  | 5, _ => exact ⟨39, _, 38, _, bG, aY, (blk_cell H 15).trans rfl, (blk_cell H 16).trans rfl, (blk_cell H 17).trans rfl, of_same_apps w6, of_first_becs 2 oD w6⟩
  | 6, _ => exact ⟨40, _, 41, _, bH, bI, (blk_cell H 18).trans rfl, (blk_cell H 19).trans rfl, (blk_cell H 20).trans rfl, of_nested_apps w6, of_joined_becs w6⟩
def of_part (l : List S25) (at_ s : Nat) : List S25 := (l.take (at_ + s)).drop at_
/-- Whether a rule applies from a place on. -/
def of_hit (l : List S25) (at_ j : Nat) : Bool := decide (at_ + of_size j ≤ l.length) && of_app j (of_part l at_ (of_size j))
def of_new (l : List S25) (at_ j : Nat) : List S25 := l.take at_ ++ of_bec j (of_part l at_ (of_size j)) ++ l.drop (at_ + of_size j)
/-- The first rule that applies at a place. -/
def of_at (l : List S25) (at_ : Nat) : Nat → Nat → Option (List S25)
 | 0, _ => none
 | d + 1, j => if of_hit l at_ j = true then some (of_new l at_ j) else of_at l at_ d (j + 1)
/-- The first place where one applies. -/
def of_from (l : List S25) : Nat → Nat → Option (List S25)
 | 0, _ => none
 | d + 1, at_ => (of_at l at_ 7 0).orElse fun _ => of_from l d (at_ + 1)
def of_once (l : List S25) : Option (List S25) := of_from l l.length 0
/-- As long as something can be folded. -/
def of_loop : Nat → List S25 → List S25
 | 0, l => l
 | n + 1, l => match of_once l with
   | none => l
   | some r => of_loop n r
theorem of_size_le (j : Nat) : 2 ≤ of_size j ∧ of_size j ≤ 4 := by unfold of_size; split <;> omega
theorem of_bec_len (j : Nat) (p : List S25) : (of_bec j p).length ≤ 1 := by
  have h6 : ((impl_joined.f p).getD []).length ≤ 1 := by
    unfold impl_joined.f
    split
    ·split
     ·exact Nat.le_refl _
     ·exact Nat.zero_le _
    ·exact Nat.zero_le _
  have h1 : (p.take 1).length ≤ 1 := by rw [List.length_take]; omega
  match j with
  | 0 => exact Nat.zero_le _
  | 1 => exact Nat.zero_le _
  | 2 => exact Nat.zero_le _
  | 3 => exact h1
  | 4 => exact h1
  | 5 => exact h1
  | _ + 6 => exact h6
theorem of_part_len {l : List S25} {y s : Nat} (h : y + s ≤ l.length) : (of_part l y s).length = s := by
  unfold of_part
  rw [List.length_drop, List.length_take]; omega
set_option maxHeartbeats 4000000 in
set_option maxRecDepth 100000 in
theorem of_once_calls (ad : Addr) (A0 : Option Addr) (c0 : Nat) (l : List S25) (w : World) (hC : Kd.C k25 w A0 l.length l) (hc : l.length ≤ c0) (hl : l.length ≤ 5) (hR : of_Rules w ad) :
    Calls Try.prog 22 #[.slice A0 l.length c0, .slice (some ad) 7 7] w fun e w' => Below w.heap.size w w' ∧ ((of_once l = none ∧ e = .returned (.tuple #[.slice A0 l.length c0, .bool false])) ∨ ∃ l' v, of_once l = some l' ∧ e = .returned (.tuple #[v, .bool true]) ∧ Kd.R k25 25 w' w.heap.size (fun _ => True) v l') := by
  have hu25 := Try.underlying25
  have hu57 := Try.underlying57
  have hu38 := Try.underlying38
  have hu23 := Try.underlying23
  have HC := Aside0.mk hC
  have HR := Aside0.mk hR
  have HB := Aside0.mk (Below.refl w.heap.size w)
  clear hC hR
  go_enter Try.func22, Try.ntmps22
  go_wp2_with (fail)
  go_loopw [13] (fun i wr => ∃ y : Nat, y ≤ l.length ∧ i = .int .i64 (y : Int) ∧ Aside0 (of_from l (l.length - y) y = of_once l) ∧ Aside0 (Below w.heap.size w wr)) (fun i _ => l.length - (intOf i).toNat)
  case atStart => exact ⟨0, Nat.zero_le _, rfl, ⟨rfl⟩, HB⟩
  case round =>
    obtain ⟨y, hy, rfl, HF, aC⟩ := hrel
    by_cases hlt : y < l.length
    ·go_wp2_with (fail)
     obtain ⟨wo, rfl⟩ : ∃ wo : World, wo = wr := ⟨_, rfl⟩
     go_loopw [18] (fun i wi => ∃ j : Nat, j ≤ 7 ∧ i = .int .i64 (j : Int) ∧ Aside0 (((of_at l y (7 - j) j).orElse fun _ => of_from l (l.length - (y + 1)) (y + 1)) = of_once l) ∧ Aside0 (Below w.heap.size w wi)) (fun i _ => 7 - (intOf i).toNat)
     case atStart => exact ⟨0, by omega, rfl, ⟨(by rw [← HF.out, show l.length - y = (l.length - (y + 1)) + 1 by omega]; rfl)⟩, aC⟩
     case round =>
      obtain ⟨j, hj, rfl, HG, aD⟩ := hrel
      rename World => wi
      by_cases hj7 : j < 7
      ·obtain ⟨ka, ca, kb, cb, n1, n2, r0, r1, r2, hA, hBc⟩ := HR.out j hj7
       replace r0 := (aD.out.cell (World.block_lt_of_cell? w _ r0)).trans r0
       replace r1 := (aD.out.cell (World.block_lt_of_cell? w _ r1)).trans r1
       replace r2 := (aD.out.cell (World.block_lt_of_cell? w _ r2)).trans r2
       have hent := n1.enters
       have hent2 := n2.enters
       have HA := Aside0.mk hA
       have HBc := Aside0.mk hBc
       clear n1 n2 hA hBc
       obtain ⟨hs2, hs4⟩ := of_size_le j
       obtain ⟨s, hs⟩ : ∃ s, of_size j = s := ⟨_, rfl⟩
       rw [hs] at r0 HA HBc hs2 hs4
       have HS := Aside0.mk hs
       clear hs
       have hw1 : IntKind.i64.wrap ((l.length : Int) - (y : Int)) = (l.length : Int) - (y : Int) := by rw [i64_w]; unfold wrap64; omega
       have hw2 : IntKind.i64.wrap ((y : Int) + (s : Int)) = (y : Int) + (s : Int) := by rw [i64_w]; unfold wrap64; omega
       have HG' : ∀ hit : of_hit l y j = false, (((of_at l y (7 - (j + 1)) (j + 1)).orElse fun _ => of_from l (l.length - (y + 1)) (y + 1)) = of_once l) := by
        intro hit
        rw [← HG.out, show 7 - j = (7 - (j + 1)) + 1 by omega]
        rw [show of_at l y ((7 - (j + 1)) + 1) j = (if of_hit l y j = true then some (of_new l y j) else of_at l y (7 - (j + 1)) (j + 1)) from rfl, hit]; rfl
       have HGY : ∀ hit : of_hit l y j = true, of_once l = some (of_new l y j) := by
        intro hit
        rw [← HG.out, show 7 - j = (7 - (j + 1)) + 1 by omega]
        rw [show of_at l y ((7 - (j + 1)) + 1) j = (if of_hit l y j = true then some (of_new l y j) else of_at l y (7 - (j + 1)) (j + 1)) from rfl, hit]; rfl
       have HN := Aside0.mk (And.intro HG' HGY)
       clear HG' HGY
       by_cases hsz : y + s ≤ l.length
       ·have hd : decide ((l.length : Int) - (y : Int) < (s : Int)) = false := decide_eq_false (by omega)
        have hlen := of_part_len hsz
        obtain ⟨i0, hi0, _, hsz0, _⟩ := info_parts info25
        have hmid := cut_mid (P := Try.prog) 23 25 .i64 .i64 Try.underlying23 hi0 5 hsz0 A0 l.length c0 (y : Int) ((y : Int) + (s : Int)) (Int.natCast_nonneg _) (by omega) (by omega) hc
        obtain ⟨A1, hA1⟩ : ∃ A1, A1 = (if c0 = y then A0 else A0.map (·.add (y * 5))) := ⟨_, rfl⟩
        rw [Int.toNat_natCast, show ((y : Int) + (s : Int)).toNat - y = s by omega, ← hA1] at hmid
        have hcp : s ≤ c0 - y := by omega
        have HCP : Aside0 (∀ W, Below w.heap.size w W → Kd.C k25 W A1 (of_part l y s).length (of_part l y s)) := ⟨fun W hb => by rw [hA1]; exact Kd.C_drop (Kd.C_take (Kd.C_below HC.out hb) hsz) (by rw [List.length_take]; omega) (by rw [List.length_take]; omega)⟩
        have HLEN := Aside0.mk hlen
        have bJ := Aside0.mk hA1
        clear hlen hA1
        go_wp2_with (first | ((with_reducible refine gate_dst (N := 8) rfl ?_); refine box_event rfl (N := 8) rfl (cs := #[.int .i64 0, .nilFunc, .nilFunc]) (t := 57) oS ?_; intro g1 hg_ W1 hk_ hb_; have aA := Aside0.mk hk_; have aE := Aside0.mk (below_then aD.out aD.out.size hb_); have HGEg1 : Aside0 (w.heap.size ≤ g1) := ⟨(by rw [hg_]; exact aD.out.size)⟩; clear hk_ hb_ hg_) | ((with_reducible refine gate_ (.store 57 (.tmp 8) (.tmp 21)) rfl ?_); refine of_storeblk (t := 57) (t' := 57) (.tmp 8) (.tmp 21) rfl rfl rfl rfl rfl aA.out rfl oK (by intro q hq; simp only [List.mem_cons, List.not_mem_nil, or_false] at hq; rcases hq with rfl | rfl | rfl <;> rfl) rfl aE.out HGEg1.out ?_; intro W2 hk_ hf_ hb_; replace aA := Aside0.mk hk_; replace aE := Aside0.mk hb_; clear hk_ hb_ hf_; have z0 := blk_cell aA.out 0; have z1 := blk_cell aA.out 1; have z2 := blk_cell aA.out 2; simp only [List.getElem?_toArray, List.getElem?_cons_zero, List.getElem?_cons_succ] at z0 z1 z2))
        have hcall := HA.out _ A1 (c0 - y) (of_part l y s) aE.out HLEN.out (HCP.out _ aE.out) (by rw [HLEN.out]; exact hcp)
        rw [HLEN.out] at hcall
        refine hcall.mono ?_
        clear hcall
        rintro e w5 ⟨rfl, hb5⟩
        have aG := Aside0.mk (below_then aE.out aE.out.size hb5)
        have HK4 := Aside0.mk (blk_below aA.out hb5)
        clear hb5 z0 z1 z2 aA
        have z0 := blk_cell HK4.out 0
        have z1 := blk_cell HK4.out 1
        have z2 := blk_cell HK4.out 2
        simp only [List.getElem?_toArray, List.getElem?_cons_zero, List.getElem?_cons_succ] at z0 z1 z2
        obtain ⟨b, hap⟩ : ∃ b, of_app j (of_part l y s) = b := ⟨_, rfl⟩
        rw [hap]
        cases b with
        | false =>
         have hno : of_hit l y j = false := by unfold of_hit; rw [HS.out, hap, Bool.and_false]
         clear hap
         go_wp2_with (fail)
         go_roundw
         case rel => exact ⟨j + 1, by omega, by go_num, ⟨HN.out.1 hno⟩, aG⟩
         case measure => simp [intOf]; omega
        | true =>
         have hyes : of_hit l y j = true := by unfold of_hit; rw [HS.out, hap, decide_eq_true hsz]; rfl
         have hone := HN.out.2 hyes
         unfold of_new at hone
         rw [HS.out] at hone
         have HONE := Aside0.mk hone
         clear hap hyes hone
         have hbl := of_bec_len j (of_part l y s)
         have hcut1 := cut_to (P := Try.prog) 23 25 .i64 Try.underlying23 hi0 A0 l.length c0 (y : Int) (Int.natCast_nonneg _) (by omega) hc
         rw [Int.toNat_natCast] at hcut1
         have hcut2 := cut_from (P := Try.prog) 23 25 .i64 Try.underlying23 hi0 5 hsz0 A0 l.length c0 ((y : Int) + (s : Int)) (by omega) (by omega)
         obtain ⟨A2, hA2⟩ : ∃ A2, A2 = (if c0 = y + s then A0 else A0.map (·.add ((y + s) * 5))) := ⟨_, rfl⟩
         rw [show ((y : Int) + (s : Int)).toNat = y + s by omega, ← hA2] at hcut2
         have htl : (l.take y).length = y := by rw [List.length_take]; omega
         have hdl : (l.drop (y + s)).length = l.length - (y + s) := List.length_drop
         have bD : Aside0 (∀ W, Below w.heap.size w W → Kd.C k25 W A0 y (l.take y)) := ⟨fun W hb => by have := Kd.C_take (m := y) (Kd.C_below HC.out hb) (by omega); rw [htl] at this; exact this⟩
         have bE : Aside0 (∀ W, Below w.heap.size w W → Kd.C k25 W A2 (l.length - (y + s)) (l.drop (y + s))) := ⟨fun W hb => by have := Kd.C_drop (m := y + s) (c := c0) (Kd.C_below HC.out hb) hsz hc; rw [hdl] at this; rw [hA2]; exact this⟩
         have HL := Aside0.mk (And.intro htl (And.intro hdl hbl))
         clear htl hdl hbl hA2
         go_wp2_with (first | ((with_reducible refine gate_dst (N := 41) rfl ?_); refine Kd.R_lit k25 _ 25 ?hg (N := 41) ?hd (xs := ([] : List (S25))) (inner := []) (ok := fun _ => True) (okp := fun _ => True) ?hr ?hp (fun _ hk => hk) trivial (Below.refl _ _) (Nat.le_refl _) (by simp) ?_; (case hd => rfl); (case hg => rfl); (case hr => first | (go_simp; done) | (go_simp; rfl)); (case hp => exact (Reps.none _ _)); intro v1 w6 ho hb hg_ hnew_; clear hg_ hnew_; have aN := Aside0.mk (Kd.R_lower ho aG.out.size); have aI := Aside0.mk (below_then aG.out aG.out.size hb); have HK6 := Aside0.mk (blk_below HK4.out hb); clear ho hb) | ((with_reducible refine gate_builtin (b := .append) (xs := #[.tmp 41, .tmp 44]) rfl ?_); at_builtin; refine Kd.R_append_rows k25 (w0 := w) w.heap.size rfl (.tmp 41) (.tmp 44) 23 25 (.agg #[(.int .i64 0), (.int .i64 0), (.int .i64 0), (.int .i64 0), (.int .i64 0)]) 40 rfl Try.underlying23 info25 rfl oD (by omega) v1 [] (l.take y) _ _ _ (fun _ => True) (fun _ => False) (by rfl) (by rfl) ?aO ?aR (fun _ _ h => h) (fun _ h => h.elim) ?aF ?aB ?aS ?aL ?_; (case aR => exact bD.out _ aI.out); (case aB => exact aI.out); (case aF => exact (fun _ _ => trivial)); (case aO => exact aN.out); (case aS => exact aI.out.size); (case aL => have := HL.out.1; simp; omega); intro v2 w7 ho hb hg hat; have HK7 := Aside0.mk (blk_grown HK6.out hg (Kd.R_ne aN.out HK6.out oD)); have aW := Aside0.mk ho; have aM := Aside0.mk hb; clear ho hb hg hat; have y0 := blk_cell HK7.out 0; have y1 := blk_cell HK7.out 1; have y2 := blk_cell HK7.out 2; simp only [List.getElem?_toArray, List.getElem?_cons_zero, List.getElem?_cons_succ] at y0 y1 y2))
         have hcall := HBc.out _ A1 (c0 - y) (of_part l y s) aM.out HLEN.out (HCP.out _ aM.out) (by rw [HLEN.out]; exact hcp)
         rw [HLEN.out] at hcall
         refine hcall.mono ?_
         clear hcall
         obtain ⟨q, hq⟩ : ∃ q, of_bec j (of_part l y s) = q := ⟨_, rfl⟩
         have hone := HONE.out
         have hL := HL.out
         rw [hq] at hone hL ⊢
         replace HONE := Aside0.mk hone
         replace HL := Aside0.mk hL
         clear hone hL hq
         rintro e w8 ⟨A3, c3, rfl, hC3, bK, hb8⟩
         have bA := Aside0.mk (below_then aM.out aM.out.size hb8)
         have HK8 := Aside0.mk (blk_below HK7.out hb8)
         have bB := Aside0.mk (Kd.R_below aW.out hb8)
         have bF := Aside0.mk hC3
         clear hC3 hb8 y0 y1 y2
         go_wp2_with (first | ((with_reducible refine gate_builtin (b := .append) (xs := #[.tmp 46, .tmp 50]) rfl ?_); at_builtin; refine Kd.R_append_rows k25 (w0 := w) w.heap.size rfl (.tmp 46) (.tmp 50) 23 25 (.agg #[(.int .i64 0), (.int .i64 0), (.int .i64 0), (.int .i64 0), (.int .i64 0)]) 40 rfl Try.underlying23 info25 rfl oD (by omega) v2 ([] ++ l.take y) q _ _ _ (fun _ => True) (fun _ => False) (by rfl) (by rfl) ?aO ?aR (fun _ _ h => h) (fun _ h => h.elim) ?aF ?aB ?aS ?aL ?_; (case aR => exact bF.out); (case aB => exact bA.out); (case aF => exact (fun _ _ => trivial)); (case aO => exact bB.out); (case aS => exact bA.out.size); (case aL => have := HL.out; simp; omega); intro v3 w9 ho hb hg hat; have HK9 := Aside0.mk (blk_grown HK8.out hg (Kd.R_ne bB.out HK8.out oD)); have aP := Aside0.mk ho; have aU := Aside0.mk hb; clear ho hb hg hat; have x0 := blk_cell HK9.out 0; simp only [List.getElem?_toArray, List.getElem?_cons_zero, List.getElem?_cons_succ] at x0) | ((with_reducible refine gate_builtin (b := .append) (xs := #[.tmp 52, .tmp 58]) rfl ?_); at_builtin; refine Kd.R_append_rows k25 (w0 := w) w.heap.size rfl (.tmp 52) (.tmp 58) 23 25 (.agg #[(.int .i64 0), (.int .i64 0), (.int .i64 0), (.int .i64 0), (.int .i64 0)]) 40 rfl Try.underlying23 info25 rfl oD (by omega) v3 ([] ++ l.take y ++ q) (l.drop (y + s)) _ _ _ (fun _ => True) (fun _ => False) (by rfl) (by rfl) ?aO ?aR (fun _ _ h => h) (fun _ h => h.elim) ?aF ?aB ?aS ?aL ?_; (case aR => exact bE.out _ aU.out); (case aB => exact aU.out); (case aF => exact (fun _ _ => trivial)); (case aO => exact aP.out); (case aS => exact aU.out.size); (case aL => have := HL.out; simp; omega); intro v4 bN ho hb hg hat; have aJ := Aside0.mk ho; have aT := Aside0.mk hb; clear ho hb hg hat))
         go_ret2
         exact ⟨aT.out, Or.inr ⟨_, _, HONE.out, rfl, by have := aJ.out; rw [List.nil_append] at this; exact this⟩⟩
       ·have hd : decide ((l.length : Int) - (y : Int) < (s : Int)) = true := decide_eq_true (by omega)
        have hno : of_hit l y j = false := by unfold of_hit; rw [HS.out, decide_eq_false hsz]; rfl
        go_wp2_with (first | ((with_reducible refine gate_dst (N := 8) rfl ?_); refine box_event rfl (N := 8) rfl (cs := #[.int .i64 0, .nilFunc, .nilFunc]) (t := 57) oS ?_; intro g1 hg_ W1 hk_ hb_; have aA := Aside0.mk hk_; have aE := Aside0.mk (below_then aD.out aD.out.size hb_); have HGEg1 : Aside0 (w.heap.size ≤ g1) := ⟨(by rw [hg_]; exact aD.out.size)⟩; clear hk_ hb_ hg_) | ((with_reducible refine gate_ (.store 57 (.tmp 8) (.tmp 21)) rfl ?_); refine of_storeblk (t := 57) (t' := 57) (.tmp 8) (.tmp 21) rfl rfl rfl rfl rfl aA.out rfl oK (by intro q hq; simp only [List.mem_cons, List.not_mem_nil, or_false] at hq; rcases hq with rfl | rfl | rfl <;> rfl) rfl aE.out HGEg1.out ?_; intro W2 hk_ hf_ hb_; replace aA := Aside0.mk hk_; replace aE := Aside0.mk hb_; clear hk_ hb_ hf_; have z0 := blk_cell aA.out 0; have z1 := blk_cell aA.out 1; have z2 := blk_cell aA.out 2; simp only [List.getElem?_toArray, List.getElem?_cons_zero, List.getElem?_cons_succ] at z0 z1 z2))
        go_roundw
        case rel => exact ⟨j + 1, by omega, by go_num, ⟨HN.out.1 hno⟩, aE⟩
        case measure => simp [intOf]; omega
      ·obtain rfl : j = 7 := by omega
       go_wp2_with (fail)
       go_roundw
       case rel => exact ⟨y + 1, by omega, by go_num, ⟨HG.out⟩, aD⟩
       case measure => simp [intOf]; omega
    ·obtain rfl : y = l.length := by omega
     go_wp2_with (fail)
     go_ret2
     refine ⟨aC.out, Or.inl ⟨?_, rfl⟩⟩
     rw [← HF.out, Nat.sub_self]
     rfl
theorem of_new_lt {l : List S25} {y j : Nat} (h : of_hit l y j = true) : (of_new l y j).length < l.length := by
  unfold of_hit at h
  rw [Bool.and_eq_true, decide_eq_true_eq] at h
  have h1 := h.1
  have h2 := of_size_le j
  have h3 := of_bec_len j (of_part l y (of_size j))
  unfold of_new
  rw [List.length_append, List.length_append, List.length_take, List.length_drop]
  omega
theorem of_at_lt {l r : List S25} {y : Nat} : ∀ d j, of_at l y d j = some r → r.length < l.length := by
  intro d
  induction d with
  | zero => intro j h; cases h
  | succ d ih =>
    intro j h
    rw [show of_at l y (d + 1) j = (if of_hit l y j = true then some (of_new l y j) else of_at l y d (j + 1)) from rfl] at h
    split at h
    ·rename_i hh
     rw [← Option.some.inj h]
     exact of_new_lt hh
    ·exact ih _ h
theorem of_from_lt {l r : List S25} : ∀ d y, of_from l d y = some r → r.length < l.length := by
  intro d
  induction d with
  | zero => intro y h; cases h
  | succ d ih =>
    intro y h
    rw [show of_from l (d + 1) y = (of_at l y 7 0).orElse (fun _ => of_from l d (y + 1)) from rfl] at h
    cases ha : of_at l y 7 0 with
    | none => rw [ha] at h; exact ih _ h
    | some q => rw [ha] at h; rw [← Option.some.inj h]; exact of_at_lt _ _ ha
theorem of_once_lt {l r : List S25} (h : of_once l = some r) : r.length < l.length := of_from_lt _ _ h
def of_meas : Value → Value → Nat
 | .slice _ n _, .bool true => 2 * n + 1
 | .slice _ n _, _ => 2 * n
 | _, _ => 0
def impl_OpsFold.f (k : Nat) (l0 : List (S25)) : Option (List (S25)) := (impl_opsOk.f k l0).bind fun b => if b = true then some (of_loop (l0.length + 1) l0) else some []
theorem impl_OpsFold.mono : ∀ l0 k, LeO (impl_OpsFold.f k l0) (impl_OpsFold.f (k + 1) l0) := by
  intro l0 k
  unfold impl_OpsFold.f
  exact LeO.bind (impl_opsOk.mono _ _) (fun _ => LeO.refl _)
set_option maxHeartbeats 4000000 in
set_option maxRecDepth 100000 in
theorem impl_OpsFold.calls (k : Nat) (A0 : Option Addr) (c0 : Nat) (l0 : List (S25)) (r : List (S25)) (w : World) (hr0 : Kd.C k25 w A0 l0.length l0) (bC : l0.length ≤ c0) (h : impl_OpsFold.f k l0 = some r) :
  Calls Try.prog 8 #[.slice A0 l0.length c0] w fun e w' => ∃ v : Value, e = .returned (v) ∧ Kd.R k25 25 w' w.heap.size (fun _ => True) v r ∧ Below w.heap.size w w' := by
  have hu25 := Try.underlying25
  have hu23 := Try.underlying23
  have HC := Aside0.mk hr0
  have HB := Aside0.mk (Below.refl w.heap.size w)
  clear hr0
  obtain ⟨b, hb, h⟩ := Option.bind_eq_some_iff.mp h
  have HO := Aside0.mk hb
  cases b with
  | false =>
    obtain rfl := Option.some.inj h
    clear hb h
    go_enter Try.func8, Try.ntmps8
    go_wp2_with (fail)
    refine (impl_opsOk.calls k A0 c0 l0 false w HC.out bC HO.out).mono ?_
    rintro e w1 ⟨rfl, hb1⟩
    have aC := Aside0.mk (below_then HB.out HB.out.size hb1)
    clear hb1
    go_wp2_with (fail)
    go_ret
    exact ⟨_, rfl, Kd.R_nil _ _ _ _ _, aC.out⟩
  | true =>
    have h5 : l0.length ≤ 5 := by
     unfold impl_opsOk.f at hb
     split at hb
     ·cases hb
     ·omega
    have hr := Option.some.inj h
    have HRR := Aside0.mk hr
    clear hb h hr
    go_enter Try.func8, Try.ntmps8
    go_wp2_with (fail)
    refine (impl_opsOk.calls k A0 c0 l0 true w HC.out bC HO.out).mono ?_
    rintro e w1 ⟨rfl, hb1⟩
    have aC := Aside0.mk (below_then HB.out HB.out.size hb1)
    clear hb1
    go_wp2_with (first | ((with_reducible refine gate_dst (N := 9) rfl ?_); refine Kd.R_lit k25 _ 25 ?hg (N := 9) ?hd (xs := ([] : List (S25))) (inner := []) (ok := fun _ => True) (okp := fun _ => True) ?hr ?hp (fun _ hk => hk) trivial (Below.refl _ _) (Nat.le_refl _) (by simp) ?_; (case hd => rfl); (case hg => rfl); (case hr => first | (go_simp; done) | (go_simp; rfl)); (case hp => exact (Reps.none _ _)); intro v1 w2 ho hb hg_ hnew_; clear hg_ hnew_; have aN := Aside0.mk (Kd.R_lower ho aC.out.size); have aD := Aside0.mk (below_then aC.out aC.out.size hb); clear ho hb) | ((with_reducible refine gate_builtin (b := .append) (xs := #[.tmp 9, .tmp 10]) rfl ?_); at_builtin; refine Kd.R_append_rows k25 (w0 := w) w.heap.size rfl (.tmp 9) (.tmp 10) 23 25 (.agg #[(.int .i64 0), (.int .i64 0), (.int .i64 0), (.int .i64 0), (.int .i64 0)]) 40 rfl Try.underlying23 info25 rfl oD (by omega) v1 [] l0 _ _ _ (fun _ => True) (fun _ => False) (by rfl) (by rfl) ?aO ?aR (fun _ _ h => h) (fun _ h => h.elim) ?aF ?aB ?aS ?aL ?_; (case aR => exact Kd.C_below HC.out aD.out); (case aB => exact aD.out); (case aF => exact (fun _ _ => trivial)); (case aO => exact aN.out); (case aS => exact aD.out.size); (case aL => simp; omega); intro v2 w3 ho hb hg hat; rw [List.nil_append] at ho; have aW := Aside0.mk ho; have aE := Aside0.mk hb; clear ho hb hg hat))
    refine (of_rules_calls _).mono ?_
    rintro e w4 ⟨ad, rfl, hrl, hb4⟩
    have aG := Aside0.mk (below_then aE.out aE.out.size hb4)
    have aP := Aside0.mk (Kd.R_below aW.out hb4)
    have HRL := Aside0.mk hrl
    clear hrl hb4
    obtain ⟨A4, c4, rfl⟩ := Kd.R_slice aP.out
    go_wp2_with (fail)
    go_loopw [3, 5] (fun v3 v5 wr => ∃ (A : Option Addr) (c : Nat) (cur : List S25) (again : Bool) (d : Nat), v3 = .slice A cur.length c ∧ v5 = .bool again ∧ cur.length ≤ 5 ∧ Aside0 (Kd.R k25 25 wr w.heap.size (fun _ => True) (.slice A cur.length c) cur) ∧ Aside0 (Below w.heap.size w wr) ∧ Aside0 (of_Rules wr ad) ∧ Aside0 (if again = true then cur.length < d ∧ of_loop d cur = r else cur = r)) (fun v3 v5 _ => of_meas v3 v5)
    case atStart => exact ⟨A4, c4, l0, true, l0.length + 1, rfl, rfl, h5, aP, aG, HRL, ⟨⟨Nat.lt_succ_self _, HRR.out⟩⟩⟩
    case round =>
     obtain ⟨A, c, cur, again, d, rfl, rfl, h5', aJ, aH, HRL5, HI⟩ := hrel
     cases again with
     | false =>
      have hcr : cur = r := HI.out
      subst hcr
      go_wp2_with (fail)
      go_ret
      exact ⟨_, rfl, aJ.out, aH.out⟩
     | true =>
      obtain ⟨hd1, hd2⟩ : cur.length < d ∧ of_loop d cur = r := HI.out
      obtain ⟨d, rfl⟩ : ∃ m, d = m + 1 := ⟨d - 1, by omega⟩
      have aV := Aside0.mk (And.intro hd1 hd2)
      clear hd1 hd2 HI
      go_wp2_with (fail)
      refine (of_once_calls ad A c cur wr (Kd.R_reads' aJ.out).2.2 (Kd.R_reads' aJ.out).2.1 h5' HRL5.out).mono ?_
      rintro e w6 ⟨hb6, hcase⟩
      have aI := Aside0.mk (below_then aH.out aH.out.size hb6)
      have HRL6 := Aside0.mk (HRL5.out.below hb6)
      rcases hcase with ⟨hn, rfl⟩ | ⟨l', v, hs, rfl, hv⟩
      ·have aQ := Aside0.mk (Kd.R_below aJ.out hb6)
       have hcr : cur = r := by
        have := aV.out.2
        rw [show of_loop (d + 1) cur = (match of_once cur with | none => cur | some r => of_loop d r) from rfl, hn] at this
        exact this
       have HCR := Aside0.mk hcr
       clear hb6 hn hcr
       go_wp2_with (fail)
       go_roundw
       case rel => exact ⟨A, c, cur, false, d, rfl, rfl, h5', aQ, aI, HRL6, HCR⟩
       case measure => simp only [of_meas]; omega
      ·have hlt := of_once_lt hs
       have aQ := Aside0.mk (Kd.R_lower hv aH.out.size)
       have hcr : of_loop d l' = r := by
        have := aV.out.2
        rw [show of_loop (d + 1) cur = (match of_once cur with | none => cur | some r => of_loop d r) from rfl, hs] at this
        exact this
       have HCR := Aside0.mk (And.intro hlt hcr)
       clear hb6 hs hv hcr
       obtain ⟨A6, c6, rfl⟩ := Kd.R_slice aQ.out
       go_wp2_with (fail)
       go_roundw
       case rel => exact ⟨A6, c6, l', true, d, rfl, rfl, by omega, aQ, aI, HRL6, ⟨⟨by have := aV.out.1; omega, HCR.out.2⟩⟩⟩
       case measure => simp only [of_meas]; omega

end Go.Proofs.Ytjkaalcocgioaaa.X
