/- What functions of the program come to, each with its proof. No condition but what each theorem states. -/
import Derived.Test.YtfnkaccncmjnaaaX0
import Derived.Test.YtfnkaccncmjnaaaX7
namespace Go.Proofs.Ytfnkaccncmjnaaa.X
open Go.RowKit Go.Proofs.YtfnkaccncmjnaaaW.PrintWords Go.Proofs.YtfnkaccncmjnaaaW.PrintLast Go.Proofs.YtfnkaccncmjnaaaW.PrintMore Go.Proofs.Ytfnkaccncmjnaaa.Hyb
attribute [local go_sem] max2_int min2_int max_two min_two max_three min_three max_four min_four
set_option linter.unusedVariables false
set_option linter.unusedSimpArgs false

/-! ### impl_BitPut: function 16 -/
/-- The row behind the step that makes room. -/
def impl_BitPut.grow (l : List Int) (u : Int) : List Int := if u % 8 = 0 then l ++ [0] else l
def impl_BitPut.bit (x u n i : Int) : Int := Go.bits .or .u8 x (IntKind.u8.wrap (IntKind.u8.wrap (Go.bits .and .i64 (n / 2 ^ i.toNat) 1) * 2 ^ (u % 8).toNat))
def impl_BitPut.put : Nat → List Int → Int → Int → Int → Int → Option (List Int × Int)
 | 0, _, _, _, _, _ => none
 | k + 1, l, u, n, b, i => if i < b then (if 0 ≤ u ∧ u ≤ 4000 ∧ 0 ≤ i ∧ i ≤ 11 ∧ 0 ≤ n ∧ n ≤ 4095 ∧ (l.length : Int) = (u + 7) / 8 then impl_BitPut.put k ((impl_BitPut.grow l u).set (u / 8).toNat (impl_BitPut.bit (rd (impl_BitPut.grow l u) (u / 8)) u n i)) (u + 1) n b (i + 1) else none) else some (l, u)
/-- One number put: the row, the bits so far, a fault. -/
def impl_BitPut.one (k : Nat) (l : List Int) (u : Int) (f : Bool) (n b : Int) : Option (List Int × Int × Bool) :=
 if f = true then some (l, u, true) else (impl_BitOk.f n b).bind fun ok => if ok = false then some (l, u, true) else if 0 ≤ u ∧ u ≤ 4000 ∧ 0 ≤ b ∧ b ≤ 12 then (if u + b > 3200 then some (l, u, true) else (impl_BitPut.put k l u n b 0).bind fun t => some (t.1, t.2, false)) else none
set_option maxHeartbeats 8000000 in
set_option maxRecDepth 100000 in
theorem impl_BitPut.one_calls (k g : Nat) (v : Value) (l : List Int) (u : Int) (f : Bool) (n b : Int) (r1 : List Int) (r2 : Int) (r3 : Bool) (w0 w : World)
  (hg : w.heap[g]? = some (.cells #[v, .int .i64 u, .bool f] 47 (0, 0))) (hge : w0.heap.size ≤ g) (hv : Kd.R (Kd.int .u8) 5 w w0.heap.size (fun x => x ≠ g) v l) (hB : Below w0.heap.size w0 w) (h : impl_BitPut.one k l u f n b = some (r1, r2, r3)) :
  Calls Try.prog 36 #[.pointer (some ⟨g, 0, none⟩), .agg #[.int .i64 n, .int .i64 b]] w fun e w' => e = .returned (.tuple #[]) ∧ ∃ v', w'.heap[g]? = some (.cells #[v', .int .i64 r2, .bool r3] 47 (0, 0)) ∧ Kd.R (Kd.int .u8) 5 w' w0.heap.size (fun x => x ≠ g) v' r1 ∧ Below w0.heap.size w0 w' := by
 have hu36 := Try.underlying36
 have hu47 := Try.underlying47
 have HG := Aside0.mk hg
 have HV := Aside0.mk hv
 have HB := Aside0.mk hB
 clear hB hv
 unfold impl_BitPut.one at h
 have aE := blk_cell HG.out 0
 have aM := blk_cell HG.out 1
 have aH := blk_cell HG.out 2
 have hf0 := blk_frozen HG.out 0
 have hf1 := blk_frozen HG.out 1
 have hf2 := blk_frozen HG.out 2
 have hlt := blk_lt hg
 simp only [List.getElem?_toArray, List.getElem?_cons_zero, List.getElem?_cons_succ] at aE aM aH
 clear hg
 cases f with
 | true =>
  rw [if_pos rfl] at h
  have H := Aside0.mk h
  clear h
  obtain ⟨rfl, rfl, rfl⟩ : r1 = l ∧ r2 = u ∧ r3 = true := by have := H.out; simp only [Option.some.injEq, Prod.mk.injEq] at this; exact ⟨this.1.symm, this.2.1.symm, this.2.2.symm⟩
  go_enter Try.func36, Try.ntmps36
  go_wp2_with (fail)
  go_quiet (fail)
  go_wp2
  refine bodyPost_ret (results_none rfl _ _ _) rfl ?_
  exact ⟨rfl, v, blk_put (blk_drewN (blk_alloc HG.out _) _) 2 _ rfl, Kd.R_far (Kd.R_drewN (Kd.R_alloc HV.out _) _) (fun k hk => hk) _, below_set (pw_below_drewN (HB.out.alloc HB.out.size _) _) hge⟩
 | false =>
  rw [if_neg oD] at h
  obtain ⟨ok, hok, h⟩ := Option.bind_eq_some_iff.mp h
  have HOK := Aside0.mk hok
  clear hok
  cases ok with
  | false =>
   rw [if_pos rfl] at h
   have H := Aside0.mk h
   clear h
   have HG1 := Aside0.mk (blk_alloc HG.out (.cells #[.int .i64 n, .int .i64 b] 36 (0, 0)))
   have HN1 := Aside0.mk (blk_new w (.cells #[.int .i64 n, .int .i64 b] 36 (0, 0)))
   have aG := Aside0.mk (HB.out.alloc HB.out.size (.cells #[.int .i64 n, .int .i64 b] 36 (0, 0)))
   have HV1 := Aside0.mk (Kd.R_alloc HV.out (.cells #[.int .i64 n, .int .i64 b] 36 (0, 0)))
   have hc2' := blk_cell HG1.out 2
   have hc1' := blk_cell HG1.out 1
   have aA := blk_cell HN1.out 0
   have aC := blk_cell HN1.out 1
   simp only [List.getElem?_toArray, List.getElem?_cons_zero, List.getElem?_cons_succ] at hc1' hc2' aA aC
   have hne : g ≠ w.heap.size := by omega
   go_enter Try.func36, Try.ntmps36
   go_wp2_with (fail)
   refine start_ (n := 19) (S := fun w' => w'.cell? ⟨g, 2, none⟩ = some (.bool false) ∧ w'.cell? ⟨w.heap.size, 0, none⟩ = some (.int .i64 n) ∧ w'.cell? ⟨w.heap.size, 1, none⟩ = some (.int .i64 b) ∧ w'.cell? ⟨g, 1, none⟩ = some (.int .i64 u)) (ds := [6]) #[false, false, false, false, false, false, false, false, false, false, false, false, false, false, false, false, false, false, false] oK rfl rfl ⟨hc2', aA, aC, hc1'⟩ (fun hHeld => ?_)
   refine pure_ (i := 0) (N := (some 5)) (v := ?_) (a' := ?_) #[true, false, false, false, false, false, false, false, false, false, false, false, false, false, false, false, false, false, false] rfl rfl oK (fun _ _ _ h => h) (Or.inl ⟨by rfl, ?_⟩) ?_ ?_
   rotate_left
   ·intro w'
    go_simp
    with_reducible rfl
   rotate_left
   ·exact oT
   refine pure_ (i := 1) (N := (some 6)) (v := ?_) (a' := ?_) #[true, true, false, false, false, false, false, false, false, false, false, false, false, false, false, false, false, false, false] rfl rfl oK (fun _ _ _ h => h) (Or.inl ⟨by rfl, ?_⟩) ?_ ?_
   rotate_left
   ·intro w'
    go_simp
    with_reducible rfl
   rotate_left
   ·exact oT
   refine pure_ (i := 2) (N := (some 7)) (v := ?_) (a' := ?_) #[true, true, true, false, false, false, false, false, false, false, false, false, false, false, false, false, false, false, false] rfl rfl oK (fun _ _ _ h => h) (Or.inl ⟨by rfl, ?_⟩) ?_ ?_
   rotate_left
   ·intro w'
    go_simp
    with_reducible rfl
   rotate_left
   ·exact oT
   refine take_ (i := 3) (N := (some 8)) (v := ?_) (a' := ?_) #[true, true, true, true, false, false, false, false, false, false, false, false, false, false, false, false, false, false, false] rfl rfl oK (fun _ _ _ h => h) (Or.inl ⟨by rfl, ?_⟩) hHeld ?_ ?_
   rotate_left
   ·intro w' s0
    go_simp
    with_reducible rfl
   rotate_left
   ·exact oT
   refine pure_ (i := 4) (N := (some 9)) (v := ?_) (a' := ?_) #[true, true, true, true, true, false, false, false, false, false, false, false, false, false, false, false, false, false, false] rfl rfl oK (fun _ _ _ h => h) (Or.inl ⟨by rfl, ?_⟩) ?_ ?_
   rotate_left
   ·intro w'
    go_simp
    with_reducible rfl
   rotate_left
   ·exact oT
   refine take_ (i := 5) (N := (some 10)) (v := ?_) (a' := ?_) #[true, true, true, true, true, true, false, false, false, false, false, false, false, false, false, false, false, false, false] rfl rfl oK (fun _ _ _ h => h) (Or.inl ⟨by rfl, ?_⟩) hHeld ?_ ?_
   rotate_left
   ·intro w' s0
    go_simp
    with_reducible rfl
   rotate_left
   ·exact oT
   refine last_ (i := 6) (N := (some 11)) #[true, true, true, true, true, true, true, false, false, false, false, false, false, false, false, false, false, false, false] rfl rfl oK oD (fun K hK => ?_)
   refine goes_ Try.func59 oK rfl #[.agg #[.int .i64 n, .int .i64 b]] (by rfl) rfl rfl (by (try simp only [List.map_toArray, List.map_cons, List.map_nil]); rfl) ?_
   refine (impl_BitOk.calls n b false _ HOK.out).mono ?_
   rintro e w2 ⟨rfl, hb⟩
   have HG2 := Aside0.mk (blk_below (blk_drew HG1.out) hb)
   have HN2 := Aside0.mk (blk_below (blk_drew HN1.out) hb)
   have HV2 := Aside0.mk (Kd.R_below (Kd.R_drew HV1.out) hb)
   have aD := Aside0.mk (below_step (below_drew aG.out) hb)
   clear hb
   have kc0 := blk_cell HG2.out 0
   have kc1 := blk_cell HG2.out 1
   have kc2 := blk_cell HG2.out 2
   have kx0 := blk_cell HN2.out 0
   have kx1 := blk_cell HN2.out 1
   have kf0 := blk_frozen HG2.out 0
   have kf1 := blk_frozen HG2.out 1
   have kf2 := blk_frozen HG2.out 2
   simp only [List.getElem?_toArray, List.getElem?_cons_zero, List.getElem?_cons_succ] at kc0 kc1 kc2 kx0 kx1
   have hS2 : w2.cell? ⟨g, 2, none⟩ = some (.bool false) ∧ w2.cell? ⟨w.heap.size, 0, none⟩ = some (.int .i64 n) ∧ w2.cell? ⟨w.heap.size, 1, none⟩ = some (.int .i64 b) ∧ w2.cell? ⟨g, 1, none⟩ = some (.int .i64 u) := ⟨kc2, kx0, kx1, kc1⟩
   refine ⟨_, rfl, ?_⟩
   refine hK.out _ _ ?_
   clear hK K
   try simp only [Act.put, List.setIfInBounds_toArray, List.set_cons_zero, List.set_cons_succ]
   refine pure_ (i := 7) (N := (some 12)) (v := ?_) (a' := ?_) #[true, true, true, true, true, true, true, true, false, false, false, false, false, false, false, false, false, false, false] rfl rfl oK (fun _ _ _ h => h) (Or.inl ⟨by rfl, ?_⟩) ?_ ?_
   rotate_left
   ·intro w'
    go_simp
    with_reducible rfl
   rotate_left
   ·exact oT
   refine pure_ (i := 8) (N := (some 13)) (v := ?_) (a' := ?_) #[true, true, true, true, true, true, true, true, true, false, false, false, false, false, false, false, false, false, false] rfl rfl oK (fun _ _ _ h => h) (Or.inl ⟨by rfl, ?_⟩) ?_ ?_
   rotate_left
   ·intro w'
    go_simp
    with_reducible rfl
   rotate_left
   ·exact oT
   refine pure_ (i := 9) (N := (some 14)) (v := ?_) (a' := ?_) #[true, true, true, true, true, true, true, true, true, true, false, false, false, false, false, false, false, false, false] rfl rfl oK (fun _ _ _ h => h) (Or.inl ⟨by rfl, ?_⟩) ?_ ?_
   rotate_left
   ·intro w'
    go_simp
    with_reducible rfl
   rotate_left
   ·exact oT
   refine pure_ (i := 10) (N := (some 15)) (v := undef) (a' := ?_) #[true, true, true, true, true, true, true, true, true, true, true, false, false, false, false, false, false, false, false] rfl rfl oK (fun _ _ _ h => h) (Or.inr ⟨by rfl, rfl⟩) ?_ ?_
   rotate_left
   ·exact oT
   refine pure_ (i := 11) (N := (some 16)) (v := undef) (a' := ?_) #[true, true, true, true, true, true, true, true, true, true, true, true, false, false, false, false, false, false, false] rfl rfl oK (fun _ _ _ h => h) (Or.inr ⟨by rfl, rfl⟩) ?_ ?_
   rotate_left
   ·exact oT
   refine pure_ (i := 12) (N := (some 17)) (v := undef) (a' := ?_) #[true, true, true, true, true, true, true, true, true, true, true, true, true, false, false, false, false, false, false] rfl rfl oK (fun _ _ _ h => h) (Or.inr ⟨by rfl, rfl⟩) ?_ ?_
   rotate_left
   ·exact oT
   refine pure_ (i := 13) (N := (some 18)) (v := undef) (a' := ?_) #[true, true, true, true, true, true, true, true, true, true, true, true, true, true, false, false, false, false, false] rfl rfl oK (fun _ _ _ h => h) (Or.inr ⟨by rfl, rfl⟩) ?_ ?_
   rotate_left
   ·exact oT
   refine pure_ (i := 14) (N := (some 19)) (v := undef) (a' := ?_) #[true, true, true, true, true, true, true, true, true, true, true, true, true, true, true, false, false, false, false] rfl rfl oK (fun _ _ _ h => h) (Or.inr ⟨by rfl, rfl⟩) ?_ ?_
   rotate_left
   ·exact oT
   refine pure_ (i := 15) (N := (some 20)) (v := undef) (a' := ?_) #[true, true, true, true, true, true, true, true, true, true, true, true, true, true, true, true, false, false, false] rfl rfl oK (fun _ _ _ h => h) (Or.inr ⟨by rfl, rfl⟩) ?_ ?_
   rotate_left
   ·exact oT
   refine pure_ (i := 16) (N := (some 21)) (v := undef) (a' := ?_) #[true, true, true, true, true, true, true, true, true, true, true, true, true, true, true, true, true, false, false] rfl rfl oK (fun _ _ _ h => h) (Or.inr ⟨by rfl, rfl⟩) ?_ ?_
   rotate_left
   ·exact oT
   refine pure_ (i := 17) (N := (some 22)) (v := undef) (a' := ?_) #[true, true, true, true, true, true, true, true, true, true, true, true, true, true, true, true, true, true, false] rfl rfl oK (fun _ _ _ h => h) (Or.inr ⟨by rfl, rfl⟩) ?_ ?_
   rotate_left
   ·exact oT
   refine pure_ (i := 18) (N := (some 23)) (v := ?_) (a' := ?_) #[true, true, true, true, true, true, true, true, true, true, true, true, true, true, true, true, true, true, true] rfl rfl oK (fun _ _ _ h => h) (Or.inl ⟨by rfl, ?_⟩) ?_ ?_
   rotate_left
   ·intro w'
    go_simp
    with_reducible rfl
   rotate_left
   ·exact oT
   refine done_ oK ?_
   obtain ⟨rfl, rfl, rfl⟩ : r1 = l ∧ r2 = u ∧ r3 = true := by have := H.out; simp only [Option.some.injEq, Prod.mk.injEq] at this; exact ⟨this.1.symm, this.2.1.symm, this.2.2.symm⟩
   go_wp2
   refine bodyPost_ret (results_none rfl _ _ _) rfl ?_
   exact ⟨rfl, v, blk_put HG2.out 2 _ rfl, Kd.R_far HV2.out (fun k hk => hk) _, below_set aD.out hge⟩
  | true =>
   rw [if_neg oD] at h
   by_cases hd : 0 ≤ u ∧ u ≤ 4000 ∧ 0 ≤ b ∧ b ≤ 12
   ·rw [if_pos hd] at h
    obtain ⟨hd0, hd1, hd2, hd3⟩ := hd
    by_cases hover : u + b > 3200
    ·rw [if_pos hover] at h
     have H := Aside0.mk h
     clear h
     have hwr : IntKind.i64.wrap (u + b) = u + b := by rw [i64_w]; unfold wrap64; omega
     have hov : decide (3200 < u + b) = true := decide_eq_true (by omega)
     have HG1 := Aside0.mk (blk_alloc HG.out (.cells #[.int .i64 n, .int .i64 b] 36 (0, 0)))
     have HN1 := Aside0.mk (blk_new w (.cells #[.int .i64 n, .int .i64 b] 36 (0, 0)))
     have aG := Aside0.mk (HB.out.alloc HB.out.size (.cells #[.int .i64 n, .int .i64 b] 36 (0, 0)))
     have HV1 := Aside0.mk (Kd.R_alloc HV.out (.cells #[.int .i64 n, .int .i64 b] 36 (0, 0)))
     have hc2' := blk_cell HG1.out 2
     have hc1' := blk_cell HG1.out 1
     have aA := blk_cell HN1.out 0
     have aC := blk_cell HN1.out 1
     simp only [List.getElem?_toArray, List.getElem?_cons_zero, List.getElem?_cons_succ] at hc1' hc2' aA aC
     have hne : g ≠ w.heap.size := by omega
     go_enter Try.func36, Try.ntmps36
     go_wp2_with (fail)
     refine start_ (n := 19) (S := fun w' => w'.cell? ⟨g, 2, none⟩ = some (.bool false) ∧ w'.cell? ⟨w.heap.size, 0, none⟩ = some (.int .i64 n) ∧ w'.cell? ⟨w.heap.size, 1, none⟩ = some (.int .i64 b) ∧ w'.cell? ⟨g, 1, none⟩ = some (.int .i64 u)) (ds := [6]) #[false, false, false, false, false, false, false, false, false, false, false, false, false, false, false, false, false, false, false] oK rfl rfl ⟨hc2', aA, aC, hc1'⟩ (fun hHeld => ?_)
     refine pure_ (i := 0) (N := (some 5)) (v := ?_) (a' := ?_) #[true, false, false, false, false, false, false, false, false, false, false, false, false, false, false, false, false, false, false] rfl rfl oK (fun _ _ _ h => h) (Or.inl ⟨by rfl, ?_⟩) ?_ ?_
     rotate_left
     ·intro w'
      go_simp
      (try simp only [hwr, hov])
      with_reducible rfl
     rotate_left
     ·exact oT
     refine pure_ (i := 1) (N := (some 6)) (v := ?_) (a' := ?_) #[true, true, false, false, false, false, false, false, false, false, false, false, false, false, false, false, false, false, false] rfl rfl oK (fun _ _ _ h => h) (Or.inl ⟨by rfl, ?_⟩) ?_ ?_
     rotate_left
     ·intro w'
      go_simp
      (try simp only [hwr, hov])
      with_reducible rfl
     rotate_left
     ·exact oT
     refine pure_ (i := 2) (N := (some 7)) (v := ?_) (a' := ?_) #[true, true, true, false, false, false, false, false, false, false, false, false, false, false, false, false, false, false, false] rfl rfl oK (fun _ _ _ h => h) (Or.inl ⟨by rfl, ?_⟩) ?_ ?_
     rotate_left
     ·intro w'
      go_simp
      (try simp only [hwr, hov])
      with_reducible rfl
     rotate_left
     ·exact oT
     refine take_ (i := 3) (N := (some 8)) (v := ?_) (a' := ?_) #[true, true, true, true, false, false, false, false, false, false, false, false, false, false, false, false, false, false, false] rfl rfl oK (fun _ _ _ h => h) (Or.inl ⟨by rfl, ?_⟩) hHeld ?_ ?_
     rotate_left
     ·intro w' s0
      go_simp
      (try simp only [hwr, hov])
      with_reducible rfl
     rotate_left
     ·exact oT
     refine pure_ (i := 4) (N := (some 9)) (v := ?_) (a' := ?_) #[true, true, true, true, true, false, false, false, false, false, false, false, false, false, false, false, false, false, false] rfl rfl oK (fun _ _ _ h => h) (Or.inl ⟨by rfl, ?_⟩) ?_ ?_
     rotate_left
     ·intro w'
      go_simp
      (try simp only [hwr, hov])
      with_reducible rfl
     rotate_left
     ·exact oT
     refine take_ (i := 5) (N := (some 10)) (v := ?_) (a' := ?_) #[true, true, true, true, true, true, false, false, false, false, false, false, false, false, false, false, false, false, false] rfl rfl oK (fun _ _ _ h => h) (Or.inl ⟨by rfl, ?_⟩) hHeld ?_ ?_
     rotate_left
     ·intro w' s0
      go_simp
      (try simp only [hwr, hov])
      with_reducible rfl
     rotate_left
     ·exact oT
     refine last_ (i := 6) (N := (some 11)) #[true, true, true, true, true, true, true, false, false, false, false, false, false, false, false, false, false, false, false] rfl rfl oK oD (fun K hK => ?_)
     refine goes_ Try.func59 oK rfl #[.agg #[.int .i64 n, .int .i64 b]] (by rfl) rfl rfl (by (try simp only [List.map_toArray, List.map_cons, List.map_nil]); rfl) ?_
     refine (impl_BitOk.calls n b true _ HOK.out).mono ?_
     rintro e w2 ⟨rfl, hb⟩
     have HG2 := Aside0.mk (blk_below (blk_drew HG1.out) hb)
     have HN2 := Aside0.mk (blk_below (blk_drew HN1.out) hb)
     have HV2 := Aside0.mk (Kd.R_below (Kd.R_drew HV1.out) hb)
     have aD := Aside0.mk (below_step (below_drew aG.out) hb)
     clear hb
     have kc0 := blk_cell HG2.out 0
     have kc1 := blk_cell HG2.out 1
     have kc2 := blk_cell HG2.out 2
     have kx0 := blk_cell HN2.out 0
     have kx1 := blk_cell HN2.out 1
     have kf0 := blk_frozen HG2.out 0
     have kf1 := blk_frozen HG2.out 1
     have kf2 := blk_frozen HG2.out 2
     simp only [List.getElem?_toArray, List.getElem?_cons_zero, List.getElem?_cons_succ] at kc0 kc1 kc2 kx0 kx1
     have hS2 : w2.cell? ⟨g, 2, none⟩ = some (.bool false) ∧ w2.cell? ⟨w.heap.size, 0, none⟩ = some (.int .i64 n) ∧ w2.cell? ⟨w.heap.size, 1, none⟩ = some (.int .i64 b) ∧ w2.cell? ⟨g, 1, none⟩ = some (.int .i64 u) := ⟨kc2, kx0, kx1, kc1⟩
     refine ⟨_, rfl, ?_⟩
     refine hK.out _ _ ?_
     clear hK K
     try simp only [Act.put, List.setIfInBounds_toArray, List.set_cons_zero, List.set_cons_succ]
     refine pure_ (i := 7) (N := (some 12)) (v := ?_) (a' := ?_) #[true, true, true, true, true, true, true, true, false, false, false, false, false, false, false, false, false, false, false] rfl rfl oK (fun _ _ _ h => h) (Or.inl ⟨by rfl, ?_⟩) ?_ ?_
     rotate_left
     ·intro w'
      go_simp
      (try simp only [hwr, hov])
      with_reducible rfl
     rotate_left
     ·exact oT
     refine pure_ (i := 8) (N := (some 13)) (v := ?_) (a' := ?_) #[true, true, true, true, true, true, true, true, true, false, false, false, false, false, false, false, false, false, false] rfl rfl oK (fun _ _ _ h => h) (Or.inl ⟨by rfl, ?_⟩) ?_ ?_
     rotate_left
     ·intro w'
      go_simp
      (try simp only [hwr, hov])
      with_reducible rfl
     rotate_left
     ·exact oT
     refine pure_ (i := 9) (N := (some 14)) (v := ?_) (a' := ?_) #[true, true, true, true, true, true, true, true, true, true, false, false, false, false, false, false, false, false, false] rfl rfl oK (fun _ _ _ h => h) (Or.inl ⟨by rfl, ?_⟩) ?_ ?_
     rotate_left
     ·intro w'
      go_simp
      (try simp only [hwr, hov])
      with_reducible rfl
     rotate_left
     ·exact oT
     refine pure_ (i := 10) (N := (some 15)) (v := ?_) (a' := ?_) #[true, true, true, true, true, true, true, true, true, true, true, false, false, false, false, false, false, false, false] rfl rfl oK (fun _ _ _ h => h) (Or.inl ⟨by rfl, ?_⟩) ?_ ?_
     rotate_left
     ·intro w'
      go_simp
      (try simp only [hwr, hov])
      with_reducible rfl
     rotate_left
     ·exact oT
     refine pure_ (i := 11) (N := (some 16)) (v := ?_) (a' := ?_) #[true, true, true, true, true, true, true, true, true, true, true, true, false, false, false, false, false, false, false] rfl rfl oK (fun _ _ _ h => h) (Or.inl ⟨by rfl, ?_⟩) ?_ ?_
     rotate_left
     ·intro w'
      go_simp
      (try simp only [hwr, hov])
      with_reducible rfl
     rotate_left
     ·exact oT
     refine pure_ (i := 12) (N := (some 17)) (v := ?_) (a' := ?_) #[true, true, true, true, true, true, true, true, true, true, true, true, true, false, false, false, false, false, false] rfl rfl oK (fun _ _ _ h => h) (Or.inl ⟨by rfl, ?_⟩) ?_ ?_
     rotate_left
     ·intro w'
      go_simp
      (try simp only [hwr, hov])
      with_reducible rfl
     rotate_left
     ·exact oT
     refine take_ (i := 13) (N := (some 18)) (v := ?_) (a' := ?_) #[true, true, true, true, true, true, true, true, true, true, true, true, true, true, false, false, false, false, false] rfl rfl oK (fun _ _ _ h => h) (Or.inl ⟨by rfl, ?_⟩) hS2 ?_ ?_
     rotate_left
     ·intro w' s0
      go_simp
      (try simp only [hwr, hov])
      with_reducible rfl
     rotate_left
     ·exact oT
     refine pure_ (i := 14) (N := (some 19)) (v := ?_) (a' := ?_) #[true, true, true, true, true, true, true, true, true, true, true, true, true, true, true, false, false, false, false] rfl rfl oK (fun _ _ _ h => h) (Or.inl ⟨by rfl, ?_⟩) ?_ ?_
     rotate_left
     ·intro w'
      go_simp
      (try simp only [hwr, hov])
      with_reducible rfl
     rotate_left
     ·exact oT
     refine take_ (i := 15) (N := (some 20)) (v := ?_) (a' := ?_) #[true, true, true, true, true, true, true, true, true, true, true, true, true, true, true, true, false, false, false] rfl rfl oK (fun _ _ _ h => h) (Or.inl ⟨by rfl, ?_⟩) hS2 ?_ ?_
     rotate_left
     ·intro w' s0
      go_simp
      (try simp only [hwr, hov])
      with_reducible rfl
     rotate_left
     ·exact oT
     refine pure_ (i := 16) (N := (some 21)) (v := ?_) (a' := ?_) #[true, true, true, true, true, true, true, true, true, true, true, true, true, true, true, true, true, false, false] rfl rfl oK (fun _ _ _ h => h) (Or.inl ⟨by rfl, ?_⟩) ?_ ?_
     rotate_left
     ·intro w'
      go_simp
      (try simp only [hwr, hov])
      with_reducible rfl
     rotate_left
     ·exact oT
     refine pure_ (i := 17) (N := (some 22)) (v := ?_) (a' := ?_) #[true, true, true, true, true, true, true, true, true, true, true, true, true, true, true, true, true, true, false] rfl rfl oK (fun _ _ _ h => h) (Or.inl ⟨by rfl, ?_⟩) ?_ ?_
     rotate_left
     ·intro w'
      go_simp
      (try simp only [hwr, hov])
      with_reducible rfl
     rotate_left
     ·exact oT
     refine pure_ (i := 18) (N := (some 23)) (v := ?_) (a' := ?_) #[true, true, true, true, true, true, true, true, true, true, true, true, true, true, true, true, true, true, true] rfl rfl oK (fun _ _ _ h => h) (Or.inl ⟨by rfl, ?_⟩) ?_ ?_
     rotate_left
     ·intro w'
      go_simp
      (try simp only [hwr, hov])
      with_reducible rfl
     rotate_left
     ·exact oT
     refine done_ oK ?_
     obtain ⟨rfl, rfl, rfl⟩ : r1 = l ∧ r2 = u ∧ r3 = true := by have := H.out; simp only [Option.some.injEq, Prod.mk.injEq] at this; exact ⟨this.1.symm, this.2.1.symm, this.2.2.symm⟩
     go_wp2
     refine bodyPost_ret (results_none rfl _ _ _) rfl ?_
     exact ⟨rfl, v, blk_put HG2.out 2 _ rfl, Kd.R_far HV2.out (fun k hk => hk) _, below_set aD.out hge⟩
    ·rw [if_neg hover] at h
     obtain ⟨⟨q1, q2⟩, hq, hh⟩ := Option.bind_eq_some_iff.mp h
     clear h
     simp only [Option.some.injEq, Prod.mk.injEq] at hh
     obtain ⟨rfl, rfl, rfl⟩ := hh
     have H := Aside0.mk hq
     clear hq
     have hwr : IntKind.i64.wrap (u + b) = u + b := by rw [i64_w]; unfold wrap64; omega
     have hov : decide (3200 < u + b) = false := decide_eq_false (by omega)
     have HVw := Aside0.mk (Kd.R_elderB HV.out w.heap.size (Nat.le_refl _))
     have HG1 := Aside0.mk (blk_alloc HG.out (.cells #[.int .i64 n, .int .i64 b] 36 (0, 0)))
     have HN1 := Aside0.mk (blk_new w (.cells #[.int .i64 n, .int .i64 b] 36 (0, 0)))
     have aG := Aside0.mk (HB.out.alloc HB.out.size (.cells #[.int .i64 n, .int .i64 b] 36 (0, 0)))
     have HV1 := Aside0.mk (Kd.R_alloc HVw.out (.cells #[.int .i64 n, .int .i64 b] 36 (0, 0)))
     have hc2' := blk_cell HG1.out 2
     have hc1' := blk_cell HG1.out 1
     have aA := blk_cell HN1.out 0
     have aC := blk_cell HN1.out 1
     simp only [List.getElem?_toArray, List.getElem?_cons_zero, List.getElem?_cons_succ] at hc1' hc2' aA aC
     have hne : g ≠ w.heap.size := by omega
     go_enter Try.func36, Try.ntmps36
     go_wp2_with (fail)
     refine start_ (n := 19) (S := fun w' => w'.cell? ⟨g, 2, none⟩ = some (.bool false) ∧ w'.cell? ⟨w.heap.size, 0, none⟩ = some (.int .i64 n) ∧ w'.cell? ⟨w.heap.size, 1, none⟩ = some (.int .i64 b) ∧ w'.cell? ⟨g, 1, none⟩ = some (.int .i64 u)) (ds := [6]) #[false, false, false, false, false, false, false, false, false, false, false, false, false, false, false, false, false, false, false] oK rfl rfl ⟨hc2', aA, aC, hc1'⟩ (fun hHeld => ?_)
     refine pure_ (i := 0) (N := (some 5)) (v := ?_) (a' := ?_) #[true, false, false, false, false, false, false, false, false, false, false, false, false, false, false, false, false, false, false] rfl rfl oK (fun _ _ _ h => h) (Or.inl ⟨by rfl, ?_⟩) ?_ ?_
     rotate_left
     ·intro w'
      go_simp
      (try simp only [hwr, hov])
      with_reducible rfl
     rotate_left
     ·exact oT
     refine pure_ (i := 1) (N := (some 6)) (v := ?_) (a' := ?_) #[true, true, false, false, false, false, false, false, false, false, false, false, false, false, false, false, false, false, false] rfl rfl oK (fun _ _ _ h => h) (Or.inl ⟨by rfl, ?_⟩) ?_ ?_
     rotate_left
     ·intro w'
      go_simp
      (try simp only [hwr, hov])
      with_reducible rfl
     rotate_left
     ·exact oT
     refine pure_ (i := 2) (N := (some 7)) (v := ?_) (a' := ?_) #[true, true, true, false, false, false, false, false, false, false, false, false, false, false, false, false, false, false, false] rfl rfl oK (fun _ _ _ h => h) (Or.inl ⟨by rfl, ?_⟩) ?_ ?_
     rotate_left
     ·intro w'
      go_simp
      (try simp only [hwr, hov])
      with_reducible rfl
     rotate_left
     ·exact oT
     refine take_ (i := 3) (N := (some 8)) (v := ?_) (a' := ?_) #[true, true, true, true, false, false, false, false, false, false, false, false, false, false, false, false, false, false, false] rfl rfl oK (fun _ _ _ h => h) (Or.inl ⟨by rfl, ?_⟩) hHeld ?_ ?_
     rotate_left
     ·intro w' s0
      go_simp
      (try simp only [hwr, hov])
      with_reducible rfl
     rotate_left
     ·exact oT
     refine pure_ (i := 4) (N := (some 9)) (v := ?_) (a' := ?_) #[true, true, true, true, true, false, false, false, false, false, false, false, false, false, false, false, false, false, false] rfl rfl oK (fun _ _ _ h => h) (Or.inl ⟨by rfl, ?_⟩) ?_ ?_
     rotate_left
     ·intro w'
      go_simp
      (try simp only [hwr, hov])
      with_reducible rfl
     rotate_left
     ·exact oT
     refine take_ (i := 5) (N := (some 10)) (v := ?_) (a' := ?_) #[true, true, true, true, true, true, false, false, false, false, false, false, false, false, false, false, false, false, false] rfl rfl oK (fun _ _ _ h => h) (Or.inl ⟨by rfl, ?_⟩) hHeld ?_ ?_
     rotate_left
     ·intro w' s0
      go_simp
      (try simp only [hwr, hov])
      with_reducible rfl
     rotate_left
     ·exact oT
     refine last_ (i := 6) (N := (some 11)) #[true, true, true, true, true, true, true, false, false, false, false, false, false, false, false, false, false, false, false] rfl rfl oK oD (fun K hK => ?_)
     refine goes_ Try.func59 oK rfl #[.agg #[.int .i64 n, .int .i64 b]] (by rfl) rfl rfl (by (try simp only [List.map_toArray, List.map_cons, List.map_nil]); rfl) ?_
     refine (impl_BitOk.calls n b true _ HOK.out).mono ?_
     rintro e w2 ⟨rfl, hb⟩
     have HG2 := Aside0.mk (blk_below (blk_drew HG1.out) hb)
     have HN2 := Aside0.mk (blk_below (blk_drew HN1.out) hb)
     have HV2 := Aside0.mk (Kd.R_below (Kd.R_drew HV1.out) hb)
     have aD := Aside0.mk (below_step (below_drew aG.out) hb)
     clear hb
     have kc0 := blk_cell HG2.out 0
     have kc1 := blk_cell HG2.out 1
     have kc2 := blk_cell HG2.out 2
     have kx0 := blk_cell HN2.out 0
     have kx1 := blk_cell HN2.out 1
     have kf0 := blk_frozen HG2.out 0
     have kf1 := blk_frozen HG2.out 1
     have kf2 := blk_frozen HG2.out 2
     simp only [List.getElem?_toArray, List.getElem?_cons_zero, List.getElem?_cons_succ] at kc0 kc1 kc2 kx0 kx1
     have hS2 : w2.cell? ⟨g, 2, none⟩ = some (.bool false) ∧ w2.cell? ⟨w.heap.size, 0, none⟩ = some (.int .i64 n) ∧ w2.cell? ⟨w.heap.size, 1, none⟩ = some (.int .i64 b) ∧ w2.cell? ⟨g, 1, none⟩ = some (.int .i64 u) := ⟨kc2, kx0, kx1, kc1⟩
     refine ⟨_, rfl, ?_⟩
     refine hK.out _ _ ?_
     clear hK K
     try simp only [Act.put, List.setIfInBounds_toArray, List.set_cons_zero, List.set_cons_succ]
     refine pure_ (i := 7) (N := (some 12)) (v := ?_) (a' := ?_) #[true, true, true, true, true, true, true, true, false, false, false, false, false, false, false, false, false, false, false] rfl rfl oK (fun _ _ _ h => h) (Or.inl ⟨by rfl, ?_⟩) ?_ ?_
     rotate_left
     ·intro w'
      go_simp
      (try simp only [hwr, hov])
      with_reducible rfl
     rotate_left
     ·exact oT
     refine pure_ (i := 8) (N := (some 13)) (v := ?_) (a' := ?_) #[true, true, true, true, true, true, true, true, true, false, false, false, false, false, false, false, false, false, false] rfl rfl oK (fun _ _ _ h => h) (Or.inl ⟨by rfl, ?_⟩) ?_ ?_
     rotate_left
     ·intro w'
      go_simp
      (try simp only [hwr, hov])
      with_reducible rfl
     rotate_left
     ·exact oT
     refine pure_ (i := 9) (N := (some 14)) (v := ?_) (a' := ?_) #[true, true, true, true, true, true, true, true, true, true, false, false, false, false, false, false, false, false, false] rfl rfl oK (fun _ _ _ h => h) (Or.inl ⟨by rfl, ?_⟩) ?_ ?_
     rotate_left
     ·intro w'
      go_simp
      (try simp only [hwr, hov])
      with_reducible rfl
     rotate_left
     ·exact oT
     refine pure_ (i := 10) (N := (some 15)) (v := ?_) (a' := ?_) #[true, true, true, true, true, true, true, true, true, true, true, false, false, false, false, false, false, false, false] rfl rfl oK (fun _ _ _ h => h) (Or.inl ⟨by rfl, ?_⟩) ?_ ?_
     rotate_left
     ·intro w'
      go_simp
      (try simp only [hwr, hov])
      with_reducible rfl
     rotate_left
     ·exact oT
     refine pure_ (i := 11) (N := (some 16)) (v := ?_) (a' := ?_) #[true, true, true, true, true, true, true, true, true, true, true, true, false, false, false, false, false, false, false] rfl rfl oK (fun _ _ _ h => h) (Or.inl ⟨by rfl, ?_⟩) ?_ ?_
     rotate_left
     ·intro w'
      go_simp
      (try simp only [hwr, hov])
      with_reducible rfl
     rotate_left
     ·exact oT
     refine pure_ (i := 12) (N := (some 17)) (v := ?_) (a' := ?_) #[true, true, true, true, true, true, true, true, true, true, true, true, true, false, false, false, false, false, false] rfl rfl oK (fun _ _ _ h => h) (Or.inl ⟨by rfl, ?_⟩) ?_ ?_
     rotate_left
     ·intro w'
      go_simp
      (try simp only [hwr, hov])
      with_reducible rfl
     rotate_left
     ·exact oT
     refine take_ (i := 13) (N := (some 18)) (v := ?_) (a' := ?_) #[true, true, true, true, true, true, true, true, true, true, true, true, true, true, false, false, false, false, false] rfl rfl oK (fun _ _ _ h => h) (Or.inl ⟨by rfl, ?_⟩) hS2 ?_ ?_
     rotate_left
     ·intro w' s0
      go_simp
      (try simp only [hwr, hov])
      with_reducible rfl
     rotate_left
     ·exact oT
     refine pure_ (i := 14) (N := (some 19)) (v := ?_) (a' := ?_) #[true, true, true, true, true, true, true, true, true, true, true, true, true, true, true, false, false, false, false] rfl rfl oK (fun _ _ _ h => h) (Or.inl ⟨by rfl, ?_⟩) ?_ ?_
     rotate_left
     ·intro w'
      go_simp
      (try simp only [hwr, hov])
      with_reducible rfl
     rotate_left
     ·exact oT
     refine take_ (i := 15) (N := (some 20)) (v := ?_) (a' := ?_) #[true, true, true, true, true, true, true, true, true, true, true, true, true, true, true, true, false, false, false] rfl rfl oK (fun _ _ _ h => h) (Or.inl ⟨by rfl, ?_⟩) hS2 ?_ ?_
     rotate_left
     ·intro w' s0
      go_simp
      (try simp only [hwr, hov])
      with_reducible rfl
     rotate_left
     ·exact oT
     refine pure_ (i := 16) (N := (some 21)) (v := ?_) (a' := ?_) #[true, true, true, true, true, true, true, true, true, true, true, true, true, true, true, true, true, false, false] rfl rfl oK (fun _ _ _ h => h) (Or.inl ⟨by rfl, ?_⟩) ?_ ?_
     rotate_left
     ·intro w'
      go_simp
      (try simp only [hwr, hov])
      with_reducible rfl
     rotate_left
     ·exact oT
     refine pure_ (i := 17) (N := (some 22)) (v := ?_) (a' := ?_) #[true, true, true, true, true, true, true, true, true, true, true, true, true, true, true, true, true, true, false] rfl rfl oK (fun _ _ _ h => h) (Or.inl ⟨by rfl, ?_⟩) ?_ ?_
     rotate_left
     ·intro w'
      go_simp
      (try simp only [hwr, hov])
      with_reducible rfl
     rotate_left
     ·exact oT
     refine pure_ (i := 18) (N := (some 23)) (v := ?_) (a' := ?_) #[true, true, true, true, true, true, true, true, true, true, true, true, true, true, true, true, true, true, true] rfl rfl oK (fun _ _ _ h => h) (Or.inl ⟨by rfl, ?_⟩) ?_ ?_
     rotate_left
     ·intro w'
      go_simp
      (try simp only [hwr, hov])
      with_reducible rfl
     rotate_left
     ·exact oT
     refine done_ oK ?_
     go_wp2_with (fail)
     go_loopg [4, 29] k (fun kq v4 aN w' => ∃ (v' : Value) (l' : List Int) (u' i' : Int), aN = .int .i64 i' ∧ Aside0 (impl_BitPut.put kq l' u' n b i' = some (q1, q2)) ∧ Aside0 (w'.heap[g]? = some (.cells #[v', .int .i64 u', .bool false] 47 (0, 0))) ∧ Aside0 (w'.heap[w.heap.size]? = some (.cells #[.int .i64 n, .int .i64 b] 36 (0, 0))) ∧ Aside0 (Kd.R (Kd.int .u8) 5 w' w0.heap.size (fun x => x ≠ g ∧ x ≠ w.heap.size) v' l') ∧ Aside0 (Below w0.heap.size w0 w'))
     case atStart => exact ⟨v, l, u, 0, rfl, H, HG2, HN2, HV2, aD⟩
     case round =>
      obtain ⟨v', l', u', i', rfl, HA, HGr, HNr, HVr, HBr⟩ := hrel
      rename World => wr
      cases gk with
      | zero => exact nomatch (show none = some _ from HA.out)
      | succ k1 =>
       have h := HA.out
       unfold impl_BitPut.put at h
       by_cases hib : i' < b
       ·rw [if_pos hib] at h
        by_cases hG : 0 ≤ u' ∧ u' ≤ 4000 ∧ 0 ≤ i' ∧ i' ≤ 11 ∧ 0 ≤ n ∧ n ≤ 4095 ∧ (l'.length : Int) = (u' + 7) / 8
        ·rw [if_pos hG] at h
         obtain ⟨g0, g1, g2, g3, g4, g5, g6⟩ := hG
         have H2 := Aside0.mk h
         clear h
         have kc0 := blk_cell HGr.out 0
         have kc1 := blk_cell HGr.out 1
         have kf0 := blk_frozen HGr.out 0
         have kf1 := blk_frozen HGr.out 1
         have hlg := blk_lt HGr.out
         have hln := blk_lt HNr.out
         simp only [List.getElem?_toArray, List.getElem?_cons_zero, List.getElem?_cons_succ] at kc0 kc1
         by_cases h8 : u' % 8 = 0
         ·have h8t : (u' % 8 == 0) = true := beq_iff_eq.mpr h8
          go_wp2_with (first | ((with_reducible refine gate_builtin (b := .append) (xs := #[.tmp 42, .tmp 43]) rfl ?_); (try (refine gate_guard (by rfl) ?_; dsimp only)); at_builtin; refine Kd.R_append (Kd.int .u8) (w0 := w0) w0.heap.size rfl (.tmp 42) (.tmp 43) 24 5 (.int .u8 0) 1 rfl Try.underlying24 info5 rfl oD (by omega) v' l' 0 [.int .u8 0] (fun x => x ≠ g ∧ x ≠ w.heap.size) (fun _ => False) rfl rfl ?aP (fun _ hk => hk.elim) ?aF ?aO ?aB ?aS ?aL ?_; (case aP => exact rfl); (case aB => exact HBr.out); (case aF => exact (fun k hk => ⟨by omega, by omega⟩)); (case aO => exact HVr.out); (case aS => exact below_size HBr.out); (case aL => omega); intro va wa ho hb hga hat; generalize hlx : l' ++ [0] = lx at ho; obtain ⟨Aa, ca, rfl⟩ := Kd.R_slice ho; have HGa := Aside0.mk (blk_grown HGr.out hga (fun e => (HVr.out.1 g e.symm).1 rfl)); have HNa := Aside0.mk (blk_grown HNr.out hga (fun e => (HVr.out.1 _ e.symm).2 rfl)); have HVa := Aside0.mk ho; have HBa := Aside0.mk hb; clear ho hb hga hat; have ka0 := blk_cell HGa.out 0; have ka1 := blk_cell HGa.out 1; simp only [List.getElem?_toArray, List.getElem?_cons_zero, List.getElem?_cons_succ] at ka0 ka1; have kaf0 := blk_frozen HGa.out 0))
          have hlen : (lx.length : Int) = u' / 8 + 1 := by rw [← hlx, List.length_append, List.length_singleton]; omega
          have hgrow : impl_BitPut.grow l' u' = lx := by unfold impl_BitPut.grow; rw [if_pos h8, hlx]
          have HGx : Aside0 ((wa.setCell ⟨g, 0, none⟩ (.slice Aa lx.length ca)).heap[g]? = some (.cells #[.slice Aa lx.length ca, .int .i64 u', .bool false] 47 (0, 0))) := ⟨blk_put HGa.out 0 _ rfl⟩
          have HNx := Aside0.mk (blk_far HNa.out (p := ⟨g, 0, none⟩) (by show w.heap.size ≠ g; omega) (.slice Aa lx.length ca))
          have HVx := Aside0.mk (Kd.R_far HVa.out (p := ⟨g, 0, none⟩) (fun k hk => hk.1) (.slice Aa lx.length ca))
          have HBx := Aside0.mk (below_set (j := 0) (v := .slice Aa lx.length ca) HBa.out hge)
          generalize wa.setCell ⟨g, 0, none⟩ (.slice Aa lx.length ca) = wx at HGx HNx HVx HBx ⊢
          generalize hvx : Value.slice Aa lx.length ca = vx at HGx HVx
          have HGy := Aside0.mk (blk_drew HGx.out)
          have HNy := Aside0.mk (blk_drew HNx.out)
          have HVy := Aside0.mk (Kd.R_drew HVx.out)
          have HBy := Aside0.mk (below_drew HBx.out)
          obtain ⟨gr, cr, rfl, hgr0, hgr1, hgr2⟩ := Kd.R_form HVy.out (by omega)
          have hgrg : gr ≠ g ∧ gr ≠ w.heap.size := HVy.out.1 gr rfl
          have kg0 := blk_cell HGy.out 0
          have kg1 := blk_cell HGy.out 1
          have kn0 := blk_cell HNy.out 0
          simp only [List.getElem?_toArray, List.getElem?_cons_zero, List.getElem?_cons_succ] at kg0 kg1 kn0
          have hq0 : 0 ≤ u' / 8 := by omega
          have hq1 : u' / 8 < (lx.length : Int) := by omega
          obtain ⟨hel, hef⟩ := Kd.R_celln 0 HVy.out (u' / 8) hq0 hq1
          have HPUT := Aside0.mk (Kd.R_putn HVy.out (u' / 8) (impl_BitPut.bit (rd lx (u' / 8)) u' n i'))
          clear hgr2
          have hqa : IntKind.i64.wrap (Int.tdiv u' 8) = u' / 8 := by rw [i64_w, Int.tdiv_eq_ediv_of_nonneg (by omega)]; unfold wrap64; omega
          have hqb : wrap64 (Int.tdiv u' 8) = u' / 8 := by rw [Int.tdiv_eq_ediv_of_nonneg (by omega)]; unfold wrap64; omega
          have hra : Int.tmod u' 8 = u' % 8 := Int.tmod_eq_emod_of_nonneg (by omega)
          have hr0 : 0 ≤ u' % 8 := by omega
          have hr8 : u' % 8 ≤ 8 := by omega
          have hi64 : i' ≤ 64 := by omega
          have HLEN := Aside0.mk hlen
          clear hlen
          have H8 := Aside0.mk h8
          clear h8 h8t
          replace hq0 := eq_true hq0
          replace hq1 := eq_true hq1
          refine start_ (n := 26) (S := fun w' => w'.cell? ⟨g, 0, none⟩ = some (.slice (some ⟨gr, 0, none⟩) lx.length cr) ∧ w'.cell? ⟨g, 1, none⟩ = some (.int .i64 u') ∧ w'.cell? ⟨w.heap.size, 0, none⟩ = some (.int .i64 n) ∧ w'.cell? ⟨gr, (u' / 8).toNat, none⟩ = some (.int .u8 (rd lx (u' / 8)))) (ds := [25]) #[false, false, false, false, false, false, false, false, false, false, false, false, false, false, false, false, false, false, false, false, false, false, false, false, false, false] oK rfl rfl ⟨kg0, kg1, kn0, hel⟩ (fun hHeld => ?_)
          generalize wx.drew = wy at HGy HNy HVy HBy HPUT kg0 kg1 kn0 hel hef hHeld ⊢
          refine pure_ (i := 0) (N := (some 47)) (v := ?_) (a' := ?_) #[true, false, false, false, false, false, false, false, false, false, false, false, false, false, false, false, false, false, false, false, false, false, false, false, false, false] rfl rfl oK (fun _ _ _ h => h) (Or.inl ⟨by rfl, ?_⟩) ?_ ?_
          rotate_left
          ·intro w'
           go_simp
           (try simp only [hqa, hqb, hra])
           with_reducible rfl
          rotate_left
          ·exact oT
          refine pure_ (i := 1) (N := (some 48)) (v := ?_) (a' := ?_) #[true, true, false, false, false, false, false, false, false, false, false, false, false, false, false, false, false, false, false, false, false, false, false, false, false, false] rfl rfl oK (fun _ _ _ h => h) (Or.inl ⟨by rfl, ?_⟩) ?_ ?_
          rotate_left
          ·intro w'
           go_simp
           (try simp only [hqa, hqb, hra])
           with_reducible rfl
          rotate_left
          ·exact oT
          refine pure_ (i := 2) (N := (some 49)) (v := ?_) (a' := ?_) #[true, true, true, false, false, false, false, false, false, false, false, false, false, false, false, false, false, false, false, false, false, false, false, false, false, false] rfl rfl oK (fun _ _ _ h => h) (Or.inl ⟨by rfl, ?_⟩) ?_ ?_
          rotate_left
          ·intro w'
           go_simp
           (try simp only [hqa, hqb, hra])
           with_reducible rfl
          rotate_left
          ·exact oT
          refine take_ (i := 3) (N := (some 50)) (v := ?_) (a' := ?_) #[true, true, true, true, false, false, false, false, false, false, false, false, false, false, false, false, false, false, false, false, false, false, false, false, false, false] rfl rfl oK (fun _ _ _ h => h) (Or.inl ⟨by rfl, ?_⟩) hHeld ?_ ?_
          rotate_left
          ·intro w' s0
           go_simp
           (try simp only [hqa, hqb, hra])
           with_reducible rfl
          rotate_left
          ·exact oT
          refine pure_ (i := 4) (N := (some 51)) (v := ?_) (a' := ?_) #[true, true, true, true, true, false, false, false, false, false, false, false, false, false, false, false, false, false, false, false, false, false, false, false, false, false] rfl rfl oK (fun _ _ _ h => h) (Or.inl ⟨by rfl, ?_⟩) ?_ ?_
          rotate_left
          ·intro w'
           go_simp
           (try simp only [hqa, hqb, hra])
           with_reducible rfl
          rotate_left
          ·exact oT
          refine pure_ (i := 5) (N := (some 52)) (v := ?_) (a' := ?_) #[true, true, true, true, true, true, false, false, false, false, false, false, false, false, false, false, false, false, false, false, false, false, false, false, false, false] rfl rfl oK (fun _ _ _ h => h) (Or.inl ⟨by rfl, ?_⟩) ?_ ?_
          rotate_left
          ·intro w'
           go_simp
           (try simp only [hqa, hqb, hra])
           with_reducible rfl
          rotate_left
          ·exact oT
          refine pure_ (i := 6) (N := (some 53)) (v := ?_) (a' := ?_) #[true, true, true, true, true, true, true, false, false, false, false, false, false, false, false, false, false, false, false, false, false, false, false, false, false, false] rfl rfl oK (fun _ _ _ h => h) (Or.inl ⟨by rfl, ?_⟩) ?_ ?_
          rotate_left
          ·intro w'
           go_simp
           (try simp only [hqa, hqb, hra])
           with_reducible rfl
          rotate_left
          ·exact oT
          refine take_ (i := 7) (N := (some 54)) (v := ?_) (a' := ?_) #[true, true, true, true, true, true, true, true, false, false, false, false, false, false, false, false, false, false, false, false, false, false, false, false, false, false] rfl rfl oK (fun _ _ _ h => h) (Or.inl ⟨by rfl, ?_⟩) hHeld ?_ ?_
          rotate_left
          ·intro w' s0
           go_simp
           (try simp only [hqa, hqb, hra])
           with_reducible rfl
          rotate_left
          ·exact oT
          refine pure_ (i := 8) (N := (some 55)) (v := ?_) (a' := ?_) #[true, true, true, true, true, true, true, true, true, false, false, false, false, false, false, false, false, false, false, false, false, false, false, false, false, false] rfl rfl oK (fun _ _ _ h => h) (Or.inl ⟨by rfl, ?_⟩) ?_ ?_
          rotate_left
          ·intro w'
           go_simp
           (try simp only [hqa, hqb, hra])
           with_reducible rfl
          rotate_left
          ·exact oT
          refine pure_ (i := 9) (N := (some 56)) (v := ?_) (a' := ?_) #[true, true, true, true, true, true, true, true, true, true, false, false, false, false, false, false, false, false, false, false, false, false, false, false, false, false] rfl rfl oK (fun _ _ _ h => h) (Or.inl ⟨by rfl, ?_⟩) ?_ ?_
          rotate_left
          ·intro w'
           go_simp
           (try simp only [hqa, hqb, hra])
           with_reducible rfl
          rotate_left
          ·exact oT
          refine take_ (i := 10) (N := (some 57)) (v := ?_) (a' := ?_) #[true, true, true, true, true, true, true, true, true, true, true, false, false, false, false, false, false, false, false, false, false, false, false, false, false, false] rfl rfl oK (fun _ _ _ h => h) (Or.inl ⟨by rfl, ?_⟩) hHeld ?_ ?_
          rotate_left
          ·intro w' s0
           go_simp
           (try simp only [hqa, hqb, hra])
           with_reducible rfl
          rotate_left
          ·exact oT
          refine pure_ (i := 11) (N := (some 58)) (v := ?_) (a' := ?_) #[true, true, true, true, true, true, true, true, true, true, true, true, false, false, false, false, false, false, false, false, false, false, false, false, false, false] rfl rfl oK (fun _ _ _ h => h) (Or.inl ⟨by rfl, ?_⟩) ?_ ?_
          rotate_left
          ·intro w'
           go_simp
           (try simp only [hqa, hqb, hra])
           with_reducible rfl
          rotate_left
          ·exact oT
          refine take_ (i := 12) (N := (some 59)) (v := ?_) (a' := ?_) #[true, true, true, true, true, true, true, true, true, true, true, true, true, false, false, false, false, false, false, false, false, false, false, false, false, false] rfl rfl oK (fun _ _ _ h => h) (Or.inl ⟨by rfl, ?_⟩) hHeld ?_ ?_
          rotate_left
          ·intro w' s0
           go_simp
           (try simp only [hqa, hqb, hra])
           with_reducible rfl
          rotate_left
          ·exact oT
          refine pure_ (i := 13) (N := (some 60)) (v := ?_) (a' := ?_) #[true, true, true, true, true, true, true, true, true, true, true, true, true, true, false, false, false, false, false, false, false, false, false, false, false, false] rfl rfl oK (fun _ _ _ h => h) (Or.inl ⟨by rfl, ?_⟩) ?_ ?_
          rotate_left
          ·intro w'
           go_simp
           (try simp only [hqa, hqb, hra])
           with_reducible rfl
          rotate_left
          ·exact oT
          refine pure_ (i := 14) (N := (some 61)) (v := ?_) (a' := ?_) #[true, true, true, true, true, true, true, true, true, true, true, true, true, true, true, false, false, false, false, false, false, false, false, false, false, false] rfl rfl oK (fun _ _ _ h => h) (Or.inl ⟨by rfl, ?_⟩) ?_ ?_
          rotate_left
          ·intro w'
           go_simp
           (try simp only [hqa, hqb, hra])
           with_reducible rfl
          rotate_left
          ·exact oT
          refine pure_ (i := 15) (N := (some 62)) (v := ?_) (a' := ?_) #[true, true, true, true, true, true, true, true, true, true, true, true, true, true, true, true, false, false, false, false, false, false, false, false, false, false] rfl rfl oK (fun _ _ _ h => h) (Or.inl ⟨by rfl, ?_⟩) ?_ ?_
          rotate_left
          ·intro w'
           go_simp
           (try simp only [hqa, hqb, hra])
           with_reducible rfl
          rotate_left
          ·exact oT
          refine pure_ (i := 16) (N := (some 63)) (v := ?_) (a' := ?_) #[true, true, true, true, true, true, true, true, true, true, true, true, true, true, true, true, true, false, false, false, false, false, false, false, false, false] rfl rfl oK (fun _ _ _ h => h) (Or.inl ⟨by rfl, ?_⟩) ?_ ?_
          rotate_left
          ·intro w'
           go_simp
           (try simp only [hqa, hqb, hra])
           with_reducible rfl
          rotate_left
          ·exact oT
          refine pure_ (i := 17) (N := (some 64)) (v := ?_) (a' := ?_) #[true, true, true, true, true, true, true, true, true, true, true, true, true, true, true, true, true, true, false, false, false, false, false, false, false, false] rfl rfl oK (fun _ _ _ h => h) (Or.inl ⟨by rfl, ?_⟩) ?_ ?_
          rotate_left
          ·intro w'
           go_simp
           (try simp only [hqa, hqb, hra])
           with_reducible rfl
          rotate_left
          ·exact oT
          refine pure_ (i := 18) (N := (some 65)) (v := ?_) (a' := ?_) #[true, true, true, true, true, true, true, true, true, true, true, true, true, true, true, true, true, true, true, false, false, false, false, false, false, false] rfl rfl oK (fun _ _ _ h => h) (Or.inl ⟨by rfl, ?_⟩) ?_ ?_
          rotate_left
          ·intro w'
           go_simp
           (try simp only [hqa, hqb, hra])
           with_reducible rfl
          rotate_left
          ·exact oT
          refine pure_ (i := 19) (N := (some 66)) (v := ?_) (a' := ?_) #[true, true, true, true, true, true, true, true, true, true, true, true, true, true, true, true, true, true, true, true, false, false, false, false, false, false] rfl rfl oK (fun _ _ _ h => h) (Or.inl ⟨by rfl, ?_⟩) ?_ ?_
          rotate_left
          ·intro w'
           go_simp
           (try simp only [hqa, hqb, hra])
           with_reducible rfl
          rotate_left
          ·exact oT
          refine take_ (i := 20) (N := (some 67)) (v := ?_) (a' := ?_) #[true, true, true, true, true, true, true, true, true, true, true, true, true, true, true, true, true, true, true, true, true, false, false, false, false, false] rfl rfl oK (fun _ _ _ h => h) (Or.inl ⟨by rfl, ?_⟩) hHeld ?_ ?_
          rotate_left
          ·intro w' s0
           go_simp
           (try simp only [hqa, hqb, hra])
           with_reducible rfl
          rotate_left
          ·exact oT
          refine pure_ (i := 21) (N := (some 68)) (v := ?_) (a' := ?_) #[true, true, true, true, true, true, true, true, true, true, true, true, true, true, true, true, true, true, true, true, true, true, false, false, false, false] rfl rfl oK (fun _ _ _ h => h) (Or.inl ⟨by rfl, ?_⟩) ?_ ?_
          rotate_left
          ·intro w'
           go_simp
           (try simp only [hqa, hqb, hra])
           with_reducible rfl
          rotate_left
          ·exact oT
          refine pure_ (i := 22) (N := (some 69)) (v := ?_) (a' := ?_) #[true, true, true, true, true, true, true, true, true, true, true, true, true, true, true, true, true, true, true, true, true, true, true, false, false, false] rfl rfl oK (fun _ _ _ h => h) (Or.inl ⟨by rfl, ?_⟩) ?_ ?_
          rotate_left
          ·intro w'
           go_simp
           (try simp only [hqa, hqb, hra])
           with_reducible rfl
          rotate_left
          ·exact oT
          refine pure_ (i := 23) (N := (some 70)) (v := ?_) (a' := ?_) #[true, true, true, true, true, true, true, true, true, true, true, true, true, true, true, true, true, true, true, true, true, true, true, true, false, false] rfl rfl oK (fun _ _ _ h => h) (Or.inl ⟨by rfl, ?_⟩) ?_ ?_
          rotate_left
          ·intro w'
           go_simp
           (try simp only [hqa, hqb, hra])
           with_reducible rfl
          rotate_left
          ·exact oT
          refine pure_ (i := 24) (N := (some 71)) (v := ?_) (a' := ?_) #[true, true, true, true, true, true, true, true, true, true, true, true, true, true, true, true, true, true, true, true, true, true, true, true, true, false] rfl rfl oK (fun _ _ _ h => h) (Or.inl ⟨by rfl, ?_⟩) ?_ ?_
          rotate_left
          ·intro w'
           go_simp
           (try simp only [hqa, hqb, hra])
           with_reducible rfl
          rotate_left
          ·exact oT
          refine last_ (i := 25) (N := none) #[true, true, true, true, true, true, true, true, true, true, true, true, true, true, true, true, true, true, true, true, true, true, true, true, true, true] rfl rfl oK oD (fun K hK => ?_)
          refine skip_ (w1 := ?_) (by rfl) rfl ?_ ?_
          rotate_left
          ·go_simp
           rfl
          refine hK.out _ _ ?_
          clear hK K
          try simp only [Act.put, List.setIfInBounds_toArray, List.set_cons_zero, List.set_cons_succ]
          refine done_ oK ?_
          rw [show Go.bits .or .u8 (rd lx (u' / 8)) (IntKind.u8.wrap (IntKind.u8.wrap (Go.bits .and .i64 (n / 2 ^ i'.toNat) 1) * 2 ^ (u' % 8).toNat)) = impl_BitPut.bit (rd lx (u' / 8)) u' n i' from rfl]
          have HGz := Aside0.mk (blk_far HGy.out (p := ⟨gr, (u' / 8).toNat, none⟩) (Ne.symm hgrg.1) (.int .u8 (impl_BitPut.bit (rd lx (u' / 8)) u' n i')))
          have HNz := Aside0.mk (blk_far HNy.out (p := ⟨gr, (u' / 8).toNat, none⟩) (Ne.symm hgrg.2) (.int .u8 (impl_BitPut.bit (rd lx (u' / 8)) u' n i')))
          have HBz := Aside0.mk (below_set (j := (u' / 8).toNat) (v := .int .u8 (impl_BitPut.bit (rd lx (u' / 8)) u' n i')) HBy.out hgr0)
          generalize wy.setCell ⟨gr, (u' / 8).toNat, none⟩ (.int .u8 (impl_BitPut.bit (rd lx (u' / 8)) u' n i')) = wz at HGz HNz HPUT HBz ⊢
          have kz1 := blk_cell HGz.out 1
          have kzf := blk_frozen HGz.out 1
          simp only [List.getElem?_toArray, List.getElem?_cons_zero, List.getElem?_cons_succ] at kz1
          rw [hgrow] at H2
          go_wp2_with (fail)
          go_roundg k1
          case measure => omega
          case rel => exact ⟨_, _, u' + 1, i' + 1, by first | rfl | go_num, H2, ⟨blk_put HGz.out 1 _ rfl⟩, ⟨blk_far HNz.out (p := ⟨g, 1, none⟩) (by show w.heap.size ≠ g; omega) _⟩, ⟨(by have := Kd.R_far HPUT.out (p := ⟨g, 1, none⟩) (fun k hk => hk.1) (.int .i64 (u' + 1)); exact this)⟩, ⟨below_set HBz.out hge⟩⟩
         ·have h8t : (u' % 8 == 0) = false := beq_eq_false_iff_ne.mpr h8
          go_wp2_with (fail)
          generalize hlx : l' = lx at HVr
          have hlen : (lx.length : Int) = u' / 8 + 1 := by rw [← hlx]; omega
          have hgrow : impl_BitPut.grow l' u' = lx := by unfold impl_BitPut.grow; rw [if_neg h8, hlx]
          have HGx := HGr
          have HNx := HNr
          have HVx := HVr
          have HBx := HBr
          generalize hwx : wr = wx at HGx HNx HVx HBx ⊢
          generalize hvx : v' = vx at HGx HVx
          have HGy := Aside0.mk (blk_drew HGx.out)
          have HNy := Aside0.mk (blk_drew HNx.out)
          have HVy := Aside0.mk (Kd.R_drew HVx.out)
          have HBy := Aside0.mk (below_drew HBx.out)
          obtain ⟨gr, cr, rfl, hgr0, hgr1, hgr2⟩ := Kd.R_form HVy.out (by omega)
          have hgrg : gr ≠ g ∧ gr ≠ w.heap.size := HVy.out.1 gr rfl
          have kg0 := blk_cell HGy.out 0
          have kg1 := blk_cell HGy.out 1
          have kn0 := blk_cell HNy.out 0
          simp only [List.getElem?_toArray, List.getElem?_cons_zero, List.getElem?_cons_succ] at kg0 kg1 kn0
          have hq0 : 0 ≤ u' / 8 := by omega
          have hq1 : u' / 8 < (lx.length : Int) := by omega
          obtain ⟨hel, hef⟩ := Kd.R_celln 0 HVy.out (u' / 8) hq0 hq1
          have HPUT := Aside0.mk (Kd.R_putn HVy.out (u' / 8) (impl_BitPut.bit (rd lx (u' / 8)) u' n i'))
          clear hgr2
          have hqa : IntKind.i64.wrap (Int.tdiv u' 8) = u' / 8 := by rw [i64_w, Int.tdiv_eq_ediv_of_nonneg (by omega)]; unfold wrap64; omega
          have hqb : wrap64 (Int.tdiv u' 8) = u' / 8 := by rw [Int.tdiv_eq_ediv_of_nonneg (by omega)]; unfold wrap64; omega
          have hra : Int.tmod u' 8 = u' % 8 := Int.tmod_eq_emod_of_nonneg (by omega)
          have hr0 : 0 ≤ u' % 8 := by omega
          have hr8 : u' % 8 ≤ 8 := by omega
          have hi64 : i' ≤ 64 := by omega
          have HLEN := Aside0.mk hlen
          clear hlen
          have H8 := Aside0.mk h8
          clear h8 h8t
          replace hq0 := eq_true hq0
          replace hq1 := eq_true hq1
          refine start_ (n := 26) (S := fun w' => w'.cell? ⟨g, 0, none⟩ = some (.slice (some ⟨gr, 0, none⟩) lx.length cr) ∧ w'.cell? ⟨g, 1, none⟩ = some (.int .i64 u') ∧ w'.cell? ⟨w.heap.size, 0, none⟩ = some (.int .i64 n) ∧ w'.cell? ⟨gr, (u' / 8).toNat, none⟩ = some (.int .u8 (rd lx (u' / 8)))) (ds := [25]) #[false, false, false, false, false, false, false, false, false, false, false, false, false, false, false, false, false, false, false, false, false, false, false, false, false, false] oK rfl rfl ⟨kg0, kg1, kn0, hel⟩ (fun hHeld => ?_)
          generalize wx.drew = wy at HGy HNy HVy HBy HPUT kg0 kg1 kn0 hel hef hHeld ⊢
          refine pure_ (i := 0) (N := (some 47)) (v := ?_) (a' := ?_) #[true, false, false, false, false, false, false, false, false, false, false, false, false, false, false, false, false, false, false, false, false, false, false, false, false, false] rfl rfl oK (fun _ _ _ h => h) (Or.inl ⟨by rfl, ?_⟩) ?_ ?_
          rotate_left
          ·intro w'
           go_simp
           (try simp only [hqa, hqb, hra])
           with_reducible rfl
          rotate_left
          ·exact oT
          refine pure_ (i := 1) (N := (some 48)) (v := ?_) (a' := ?_) #[true, true, false, false, false, false, false, false, false, false, false, false, false, false, false, false, false, false, false, false, false, false, false, false, false, false] rfl rfl oK (fun _ _ _ h => h) (Or.inl ⟨by rfl, ?_⟩) ?_ ?_
          rotate_left
          ·intro w'
           go_simp
           (try simp only [hqa, hqb, hra])
           with_reducible rfl
          rotate_left
          ·exact oT
          refine pure_ (i := 2) (N := (some 49)) (v := ?_) (a' := ?_) #[true, true, true, false, false, false, false, false, false, false, false, false, false, false, false, false, false, false, false, false, false, false, false, false, false, false] rfl rfl oK (fun _ _ _ h => h) (Or.inl ⟨by rfl, ?_⟩) ?_ ?_
          rotate_left
          ·intro w'
           go_simp
           (try simp only [hqa, hqb, hra])
           with_reducible rfl
          rotate_left
          ·exact oT
          refine take_ (i := 3) (N := (some 50)) (v := ?_) (a' := ?_) #[true, true, true, true, false, false, false, false, false, false, false, false, false, false, false, false, false, false, false, false, false, false, false, false, false, false] rfl rfl oK (fun _ _ _ h => h) (Or.inl ⟨by rfl, ?_⟩) hHeld ?_ ?_
          rotate_left
          ·intro w' s0
           go_simp
           (try simp only [hqa, hqb, hra])
           with_reducible rfl
          rotate_left
          ·exact oT
          refine pure_ (i := 4) (N := (some 51)) (v := ?_) (a' := ?_) #[true, true, true, true, true, false, false, false, false, false, false, false, false, false, false, false, false, false, false, false, false, false, false, false, false, false] rfl rfl oK (fun _ _ _ h => h) (Or.inl ⟨by rfl, ?_⟩) ?_ ?_
          rotate_left
          ·intro w'
           go_simp
           (try simp only [hqa, hqb, hra])
           with_reducible rfl
          rotate_left
          ·exact oT
          refine pure_ (i := 5) (N := (some 52)) (v := ?_) (a' := ?_) #[true, true, true, true, true, true, false, false, false, false, false, false, false, false, false, false, false, false, false, false, false, false, false, false, false, false] rfl rfl oK (fun _ _ _ h => h) (Or.inl ⟨by rfl, ?_⟩) ?_ ?_
          rotate_left
          ·intro w'
           go_simp
           (try simp only [hqa, hqb, hra])
           with_reducible rfl
          rotate_left
          ·exact oT
          refine pure_ (i := 6) (N := (some 53)) (v := ?_) (a' := ?_) #[true, true, true, true, true, true, true, false, false, false, false, false, false, false, false, false, false, false, false, false, false, false, false, false, false, false] rfl rfl oK (fun _ _ _ h => h) (Or.inl ⟨by rfl, ?_⟩) ?_ ?_
          rotate_left
          ·intro w'
           go_simp
           (try simp only [hqa, hqb, hra])
           with_reducible rfl
          rotate_left
          ·exact oT
          refine take_ (i := 7) (N := (some 54)) (v := ?_) (a' := ?_) #[true, true, true, true, true, true, true, true, false, false, false, false, false, false, false, false, false, false, false, false, false, false, false, false, false, false] rfl rfl oK (fun _ _ _ h => h) (Or.inl ⟨by rfl, ?_⟩) hHeld ?_ ?_
          rotate_left
          ·intro w' s0
           go_simp
           (try simp only [hqa, hqb, hra])
           with_reducible rfl
          rotate_left
          ·exact oT
          refine pure_ (i := 8) (N := (some 55)) (v := ?_) (a' := ?_) #[true, true, true, true, true, true, true, true, true, false, false, false, false, false, false, false, false, false, false, false, false, false, false, false, false, false] rfl rfl oK (fun _ _ _ h => h) (Or.inl ⟨by rfl, ?_⟩) ?_ ?_
          rotate_left
          ·intro w'
           go_simp
           (try simp only [hqa, hqb, hra])
           with_reducible rfl
          rotate_left
          ·exact oT
          refine pure_ (i := 9) (N := (some 56)) (v := ?_) (a' := ?_) #[true, true, true, true, true, true, true, true, true, true, false, false, false, false, false, false, false, false, false, false, false, false, false, false, false, false] rfl rfl oK (fun _ _ _ h => h) (Or.inl ⟨by rfl, ?_⟩) ?_ ?_
          rotate_left
          ·intro w'
           go_simp
           (try simp only [hqa, hqb, hra])
           with_reducible rfl
          rotate_left
          ·exact oT
          refine take_ (i := 10) (N := (some 57)) (v := ?_) (a' := ?_) #[true, true, true, true, true, true, true, true, true, true, true, false, false, false, false, false, false, false, false, false, false, false, false, false, false, false] rfl rfl oK (fun _ _ _ h => h) (Or.inl ⟨by rfl, ?_⟩) hHeld ?_ ?_
          rotate_left
          ·intro w' s0
           go_simp
           (try simp only [hqa, hqb, hra])
           with_reducible rfl
          rotate_left
          ·exact oT
          refine pure_ (i := 11) (N := (some 58)) (v := ?_) (a' := ?_) #[true, true, true, true, true, true, true, true, true, true, true, true, false, false, false, false, false, false, false, false, false, false, false, false, false, false] rfl rfl oK (fun _ _ _ h => h) (Or.inl ⟨by rfl, ?_⟩) ?_ ?_
          rotate_left
          ·intro w'
           go_simp
           (try simp only [hqa, hqb, hra])
           with_reducible rfl
          rotate_left
          ·exact oT
          refine take_ (i := 12) (N := (some 59)) (v := ?_) (a' := ?_) #[true, true, true, true, true, true, true, true, true, true, true, true, true, false, false, false, false, false, false, false, false, false, false, false, false, false] rfl rfl oK (fun _ _ _ h => h) (Or.inl ⟨by rfl, ?_⟩) hHeld ?_ ?_
          rotate_left
          ·intro w' s0
           go_simp
           (try simp only [hqa, hqb, hra])
           with_reducible rfl
          rotate_left
          ·exact oT
          refine pure_ (i := 13) (N := (some 60)) (v := ?_) (a' := ?_) #[true, true, true, true, true, true, true, true, true, true, true, true, true, true, false, false, false, false, false, false, false, false, false, false, false, false] rfl rfl oK (fun _ _ _ h => h) (Or.inl ⟨by rfl, ?_⟩) ?_ ?_
          rotate_left
          ·intro w'
           go_simp
           (try simp only [hqa, hqb, hra])
           with_reducible rfl
          rotate_left
          ·exact oT
          refine pure_ (i := 14) (N := (some 61)) (v := ?_) (a' := ?_) #[true, true, true, true, true, true, true, true, true, true, true, true, true, true, true, false, false, false, false, false, false, false, false, false, false, false] rfl rfl oK (fun _ _ _ h => h) (Or.inl ⟨by rfl, ?_⟩) ?_ ?_
          rotate_left
          ·intro w'
           go_simp
           (try simp only [hqa, hqb, hra])
           with_reducible rfl
          rotate_left
          ·exact oT
          refine pure_ (i := 15) (N := (some 62)) (v := ?_) (a' := ?_) #[true, true, true, true, true, true, true, true, true, true, true, true, true, true, true, true, false, false, false, false, false, false, false, false, false, false] rfl rfl oK (fun _ _ _ h => h) (Or.inl ⟨by rfl, ?_⟩) ?_ ?_
          rotate_left
          ·intro w'
           go_simp
           (try simp only [hqa, hqb, hra])
           with_reducible rfl
          rotate_left
          ·exact oT
          refine pure_ (i := 16) (N := (some 63)) (v := ?_) (a' := ?_) #[true, true, true, true, true, true, true, true, true, true, true, true, true, true, true, true, true, false, false, false, false, false, false, false, false, false] rfl rfl oK (fun _ _ _ h => h) (Or.inl ⟨by rfl, ?_⟩) ?_ ?_
          rotate_left
          ·intro w'
           go_simp
           (try simp only [hqa, hqb, hra])
           with_reducible rfl
          rotate_left
          ·exact oT
          refine pure_ (i := 17) (N := (some 64)) (v := ?_) (a' := ?_) #[true, true, true, true, true, true, true, true, true, true, true, true, true, true, true, true, true, true, false, false, false, false, false, false, false, false] rfl rfl oK (fun _ _ _ h => h) (Or.inl ⟨by rfl, ?_⟩) ?_ ?_
          rotate_left
          ·intro w'
           go_simp
           (try simp only [hqa, hqb, hra])
           with_reducible rfl
          rotate_left
          ·exact oT
          refine pure_ (i := 18) (N := (some 65)) (v := ?_) (a' := ?_) #[true, true, true, true, true, true, true, true, true, true, true, true, true, true, true, true, true, true, true, false, false, false, false, false, false, false] rfl rfl oK (fun _ _ _ h => h) (Or.inl ⟨by rfl, ?_⟩) ?_ ?_
          rotate_left
          ·intro w'
           go_simp
           (try simp only [hqa, hqb, hra])
           with_reducible rfl
          rotate_left
          ·exact oT
          refine pure_ (i := 19) (N := (some 66)) (v := ?_) (a' := ?_) #[true, true, true, true, true, true, true, true, true, true, true, true, true, true, true, true, true, true, true, true, false, false, false, false, false, false] rfl rfl oK (fun _ _ _ h => h) (Or.inl ⟨by rfl, ?_⟩) ?_ ?_
          rotate_left
          ·intro w'
           go_simp
           (try simp only [hqa, hqb, hra])
           with_reducible rfl
          rotate_left
          ·exact oT
          refine take_ (i := 20) (N := (some 67)) (v := ?_) (a' := ?_) #[true, true, true, true, true, true, true, true, true, true, true, true, true, true, true, true, true, true, true, true, true, false, false, false, false, false] rfl rfl oK (fun _ _ _ h => h) (Or.inl ⟨by rfl, ?_⟩) hHeld ?_ ?_
          rotate_left
          ·intro w' s0
           go_simp
           (try simp only [hqa, hqb, hra])
           with_reducible rfl
          rotate_left
          ·exact oT
          refine pure_ (i := 21) (N := (some 68)) (v := ?_) (a' := ?_) #[true, true, true, true, true, true, true, true, true, true, true, true, true, true, true, true, true, true, true, true, true, true, false, false, false, false] rfl rfl oK (fun _ _ _ h => h) (Or.inl ⟨by rfl, ?_⟩) ?_ ?_
          rotate_left
          ·intro w'
           go_simp
           (try simp only [hqa, hqb, hra])
           with_reducible rfl
          rotate_left
          ·exact oT
          refine pure_ (i := 22) (N := (some 69)) (v := ?_) (a' := ?_) #[true, true, true, true, true, true, true, true, true, true, true, true, true, true, true, true, true, true, true, true, true, true, true, false, false, false] rfl rfl oK (fun _ _ _ h => h) (Or.inl ⟨by rfl, ?_⟩) ?_ ?_
          rotate_left
          ·intro w'
           go_simp
           (try simp only [hqa, hqb, hra])
           with_reducible rfl
          rotate_left
          ·exact oT
          refine pure_ (i := 23) (N := (some 70)) (v := ?_) (a' := ?_) #[true, true, true, true, true, true, true, true, true, true, true, true, true, true, true, true, true, true, true, true, true, true, true, true, false, false] rfl rfl oK (fun _ _ _ h => h) (Or.inl ⟨by rfl, ?_⟩) ?_ ?_
          rotate_left
          ·intro w'
           go_simp
           (try simp only [hqa, hqb, hra])
           with_reducible rfl
          rotate_left
          ·exact oT
          refine pure_ (i := 24) (N := (some 71)) (v := ?_) (a' := ?_) #[true, true, true, true, true, true, true, true, true, true, true, true, true, true, true, true, true, true, true, true, true, true, true, true, true, false] rfl rfl oK (fun _ _ _ h => h) (Or.inl ⟨by rfl, ?_⟩) ?_ ?_
          rotate_left
          ·intro w'
           go_simp
           (try simp only [hqa, hqb, hra])
           with_reducible rfl
          rotate_left
          ·exact oT
          refine last_ (i := 25) (N := none) #[true, true, true, true, true, true, true, true, true, true, true, true, true, true, true, true, true, true, true, true, true, true, true, true, true, true] rfl rfl oK oD (fun K hK => ?_)
          refine skip_ (w1 := ?_) (by rfl) rfl ?_ ?_
          rotate_left
          ·go_simp
           rfl
          refine hK.out _ _ ?_
          clear hK K
          try simp only [Act.put, List.setIfInBounds_toArray, List.set_cons_zero, List.set_cons_succ]
          refine done_ oK ?_
          rw [show Go.bits .or .u8 (rd lx (u' / 8)) (IntKind.u8.wrap (IntKind.u8.wrap (Go.bits .and .i64 (n / 2 ^ i'.toNat) 1) * 2 ^ (u' % 8).toNat)) = impl_BitPut.bit (rd lx (u' / 8)) u' n i' from rfl]
          have HGz := Aside0.mk (blk_far HGy.out (p := ⟨gr, (u' / 8).toNat, none⟩) (Ne.symm hgrg.1) (.int .u8 (impl_BitPut.bit (rd lx (u' / 8)) u' n i')))
          have HNz := Aside0.mk (blk_far HNy.out (p := ⟨gr, (u' / 8).toNat, none⟩) (Ne.symm hgrg.2) (.int .u8 (impl_BitPut.bit (rd lx (u' / 8)) u' n i')))
          have HBz := Aside0.mk (below_set (j := (u' / 8).toNat) (v := .int .u8 (impl_BitPut.bit (rd lx (u' / 8)) u' n i')) HBy.out hgr0)
          generalize wy.setCell ⟨gr, (u' / 8).toNat, none⟩ (.int .u8 (impl_BitPut.bit (rd lx (u' / 8)) u' n i')) = wz at HGz HNz HPUT HBz ⊢
          have kz1 := blk_cell HGz.out 1
          have kzf := blk_frozen HGz.out 1
          simp only [List.getElem?_toArray, List.getElem?_cons_zero, List.getElem?_cons_succ] at kz1
          rw [hgrow] at H2
          go_wp2_with (fail)
          go_roundg k1
          case measure => omega
          case rel => exact ⟨_, _, u' + 1, i' + 1, by first | rfl | go_num, H2, ⟨blk_put HGz.out 1 _ rfl⟩, ⟨blk_far HNz.out (p := ⟨g, 1, none⟩) (by show w.heap.size ≠ g; omega) _⟩, ⟨(by have := Kd.R_far HPUT.out (p := ⟨g, 1, none⟩) (fun k hk => hk.1) (.int .i64 (u' + 1)); exact this)⟩, ⟨below_set HBz.out hge⟩⟩
        ·rw [if_neg hG] at h; cases h
       ·rw [if_neg hib] at h
        simp only [Option.some.injEq, Prod.mk.injEq] at h
        obtain ⟨rfl, rfl⟩ := h
        go_wp2_with (fail)
        refine bodyPost_end (results_none rfl _ _ _) rfl ?_
        exact ⟨rfl, v', HGr.out, Kd.R_mono HVr.out (fun _ hk => hk.1), HBr.out⟩
   ·rw [if_neg hd] at h; cases h
theorem impl_BitPut.put_mono : ∀ k l u n b i, LeO (impl_BitPut.put k l u n b i) (impl_BitPut.put (k + 1) l u n b i)
 | 0, _, _, _, _, _ => LeO.none _
 | k + 1, l, u, n, b, i => by
  unfold impl_BitPut.put
  exact LeO.ite (LeO.ite (impl_BitPut.put_mono k _ _ _ _ _) (LeO.refl _)) (LeO.refl _)
theorem impl_BitPut.one_mono (k : Nat) (l : List Int) (u : Int) (f : Bool) (n b : Int) : LeO (impl_BitPut.one k l u f n b) (impl_BitPut.one (k + 1) l u f n b) := by
 unfold impl_BitPut.one
 exact LeO.ite (LeO.refl _) (LeO.bind (LeO.refl _) (fun _ => LeO.ite (LeO.refl _) (LeO.ite (LeO.ite (LeO.refl _) (LeO.bind (impl_BitPut.put_mono _ _ _ _ _ _) (fun _ => LeO.refl _))) (LeO.refl _))))
def impl_BitPut.all : Nat → List S36 → List Int → Int → Bool → Int → Option (List Int)
 | 0, _, _, _, _, _ => none
 | k + 1, x, l, u, f, i => if i < (x.length : Int) then (if 0 ≤ i then (impl_BitPut.one k l u f (rd_T36 x i).f0 (rd_T36 x i).f1).bind fun t => impl_BitPut.all k x t.1 t.2.1 t.2.2 (i + 1) else none) else some (if f = true then [] else l)
theorem impl_BitPut.all_mono : ∀ k x l u f i, LeO (impl_BitPut.all k x l u f i) (impl_BitPut.all (k + 1) x l u f i)
 | 0, _, _, _, _, _ => LeO.none _
 | k + 1, x, l, u, f, i => by
  unfold impl_BitPut.all
  exact LeO.ite (LeO.ite (LeO.bind (impl_BitPut.one_mono _ _ _ _ _ _) (fun _ => impl_BitPut.all_mono k _ _ _ _ _)) (LeO.refl _)) (LeO.refl _)
def impl_BitPut.f (k : Nat) (l0 : List S36) : Option (List Int) := impl_BitPut.all k l0 [] 0 false 0
theorem impl_BitPut.mono : ∀ a0 k, LeO (impl_BitPut.f k a0) (impl_BitPut.f (k + 1) a0) := fun _ k => impl_BitPut.all_mono k _ _ _ _ _
set_option maxHeartbeats 8000000 in
set_option maxRecDepth 100000 in
theorem impl_BitPut.bytes_calls (g : Nat) (v : Value) (l : List Int) (u : Int) (f : Bool) (w0 w : World)
  (hg : w.heap[g]? = some (.cells #[v, .int .i64 u, .bool f] 47 (0, 0))) (hge : w0.heap.size ≤ g) (hv : Kd.R (Kd.int .u8) 5 w w0.heap.size (fun x => x ≠ g) v l) (hB : Below w0.heap.size w0 w) :
  Calls Try.prog 37 #[.pointer (some ⟨g, 0, none⟩)] w fun e w' => ∃ v', e = .returned v' ∧ Kd.R (Kd.int .u8) 5 w' w0.heap.size (fun x => x ≠ g) v' (if f = true then [] else l) ∧ Below w0.heap.size w0 w' := by
 have hu47 := Try.underlying47
 have HV := Aside0.mk hv
 have HB := Aside0.mk hB
 clear hB hv
 have aE := blk_cell hg 0
 have aH := blk_cell hg 2
 simp only [List.getElem?_toArray, List.getElem?_cons_zero, List.getElem?_cons_succ] at aE aH
 have HG := Aside0.mk hg
 clear hg
 obtain ⟨A0, c0, rfl⟩ := Kd.R_slice HV.out
 generalize hln : l.length = ln at aE
 cases f with
 | true =>
  go_enter Try.func37, Try.ntmps37
  go_wp2
  go_ret
  exact ⟨_, rfl, Kd.R_nil _ _ _ _ _, HB.out⟩
 | false =>
  go_enter Try.func37, Try.ntmps37
  go_wp2
  go_ret
  exact ⟨_, rfl, by subst hln; exact HV.out, HB.out⟩
set_option maxHeartbeats 8000000 in
set_option maxRecDepth 100000 in
theorem impl_BitPut.calls (k : Nat) (A0 : Option Addr) (c0 : Nat) (l0 : List S36) (r : List Int) (w : World) (hr0 : Kd.C k36 w A0 l0.length l0) (aE : l0.length ≤ c0) (h : impl_BitPut.f k l0 = some r) :
  Calls Try.prog 16 #[.slice A0 l0.length c0] w fun e w' => ∃ aJ : Value, e = .returned (aJ) ∧ Kd.R (Kd.int .u8) 5 w' w.heap.size (fun _ => True) aJ r ∧ Below w.heap.size w w' := by
 have hu36 := Try.underlying36
 have hu47 := Try.underlying47
 have aI := Aside0.mk hr0
 have aQ := Aside0.mk aE
 clear hr0 aE
 have H := Aside0.mk h
 clear h
 unfold impl_BitPut.f at H
 go_enter Try.func16, Try.ntmps16
 go_wp2_with (fail)
 have HG0 := Aside0.mk (blk_new w (.cells #[.slice none 0 0, .int .i64 0, .bool false] 47 (0, 0)))
 have aK := Aside0.mk (below_alloc (Below.refl _ w) (.cells #[.slice none 0 0, .int .i64 0, .bool false] 47 (0, 0)))
 go_loopg [5, 8] k (fun kq v5 v8 w' => ∃ (v' : Value) (l' : List Int) (u' : Int) (f' : Bool) (i' : Int), v8 = .int .i64 i' ∧ Aside0 (impl_BitPut.all kq l0 l' u' f' i' = some r) ∧ Aside0 (w'.heap[w.heap.size]? = some (.cells #[v', .int .i64 u', .bool f'] 47 (0, 0))) ∧ Aside0 (Kd.R (Kd.int .u8) 5 w' w.heap.size (fun x => x ≠ w.heap.size) v' l') ∧ Aside0 (Below w.heap.size w w'))
 case atStart => exact ⟨_, [], 0, false, 0, rfl, H, HG0, ⟨Kd.R_nil _ _ _ _ _⟩, aK⟩
 case round =>
  obtain ⟨v', l', u', f', i', rfl, HA, HGr, HVr, HBr⟩ := hrel
  rename World => wr
  cases gk with
  | zero => exact nomatch (show none = some _ from HA.out)
  | succ k1 =>
   have h := HA.out
   unfold impl_BitPut.all at h
   by_cases hi : i' < (l0.length : Int)
   ·rw [if_pos hi] at h
    by_cases h0 : 0 ≤ i'
    ·rw [if_pos h0] at h
     obtain ⟨⟨q1, q2, q3⟩, hq, hh⟩ := Option.bind_eq_some_iff.mp h
     have HQ := Aside0.mk hq
     have H2 := Aside0.mk hh
     clear h hq hh
     obtain ⟨ad, ea, aA, aC⟩ := at_T36 aI.out i' h0 hi
     cases ea
     replace aA := (HBr.out.cell (World.block_lt_of_cell? w _ aA)).trans aA
     replace aC := (HBr.out.cell (World.block_lt_of_cell? w _ aC)).trans aC
     have hlm : l0.length ≤ 9223372036854775807 := aI.out.2.1
     generalize (rd_T36 l0 i').f0 = n at aA HQ
     generalize (rd_T36 l0 i').f1 = b at aC HQ
     have hi' := hi
     replace hi := eq_true hi
     replace h0' := eq_true h0
     go_wp2_with (go_at_call 36; refine (impl_BitPut.one_calls k1 w.heap.size v' l' u' f' n b q1 q2 q3 w _ (blk_alloc HGr.out _) (Nat.le_refl _) (Kd.R_alloc HVr.out _) (below_alloc HBr.out _) HQ.out).mono ?_; rintro e w2 ⟨rfl, v2, hg2, hv2, hb2⟩; have HG2 := Aside0.mk hg2; have HV2 := Aside0.mk hv2; have aD := Aside0.mk hb2; clear hg2 hv2 hb2)
     go_roundg k1
     case measure => omega
     case rel => exact ⟨_, _, _, _, i' + 1, by first | rfl | go_num, H2, HG2, HV2, aD⟩
    ·rw [if_neg h0] at h; cases h
   ·rw [if_neg hi] at h
    simp only [Option.some.injEq] at h
    have HH := Aside0.mk h
    clear h
    go_wp2_with (go_at_call 37; refine (impl_BitPut.bytes_calls w.heap.size v' l' u' f' w wr HGr.out (Nat.le_refl _) HVr.out HBr.out).mono ?_; rintro e w2 ⟨v2, rfl, hv2, hb2⟩; have HV2 := Aside0.mk hv2; have aD := Aside0.mk hb2; clear hv2 hb2)
    go_ret
    exact ⟨_, rfl, by rw [← HH.out]; exact Kd.R_mono HV2.out (fun _ _ => trivial), aD.out⟩

end Go.Proofs.Ytfnkaccncmjnaaa.X
