/- What functions of the program come to, each with its proof. No condition but what each theorem states. -/
import Derived.Test.YtfnkaccncmjnaaaX0
import Derived.Test.YtfnkaccncmjnaaaX10
namespace Go.Proofs.Ytfnkaccncmjnaaa.X
open Go.RowKit Go.Proofs.YtfnkaccncmjnaaaW.PrintWords Go.Proofs.YtfnkaccncmjnaaaW.PrintLast Go.Proofs.YtfnkaccncmjnaaaW.PrintMore Go.Proofs.Ytfnkaccncmjnaaa.Hyb
attribute [local go_sem] max2_int min2_int max_two min_two max_three min_three max_four min_four
set_option linter.unusedVariables false
set_option linter.unusedSimpArgs false

/-! ### impl_PakPut: function 32 -/
/-- How many numbers the longest string that was met has, from so many on. -/
def pkGrow (met : List (List Int)) (r : List Int) : Nat → Nat → Nat
 | 0, n => n
 | f + 1, n => if n < r.length ∧ r.take (n + 1) ∈ met then pkGrow met r f (n + 1) else n
def pkLen (met : List (List Int)) (r : List Int) : Nat := pkGrow met r r.length 1
/-- Where a string stands among some. -/
def pkAt (met : List (List Int)) (s : List Int) : Nat := met.findIdx (· == s)
/-- The code of a string. -/
def pkCode (met : List (List Int)) (s : List Int) : Int := if s.length = 1 then s.headD 0 else 257 + (pkAt met s : Int)
/-- What was met behind a step. -/
def pkMet (met : List (List Int)) (r : List Int) (n : Nat) : List (List Int) := if n < r.length then met ++ [r.take (n + 1)] else met
/-- The codes, without the end's. -/
def pkEnc : Nat → List (List Int) → List Int → List Int
 | 0, _, _ => []
 | f + 1, met, r => if r = [] then [] else pkCode met (r.take (pkLen met r)) :: pkEnc f (pkMet met r (pkLen met r)) (r.drop (pkLen met r))
def pkCodes (l : List Int) : List Int := pkEnc l.length [] l
theorem pp_ne {w : World} {g t e : Nat} {cs : Array Value} {v : Value} (hb : w.heap[g]? = some (.cells cs t (0, 0))) (hty : ∀ k, v.ownBlock = some k → ∃ cells, w.heap[k]? = some (.cells cells e (0, 0))) (h : e ≠ t) : some g ≠ v.ownBlock := by
 intro he
 obtain ⟨cells, hc⟩ := hty g he.symm
 rw [hb] at hc
 injection hc with hc
 injection hc with _ hc
 exact h hc.symm
/-- How a pointer to a node reads: its block, and one; nought for none. -/
def ppR (v : Value) : Option (DataW Unit × List MemPlace) := match v with
 | .pointer none => some (.lit (.int .i64 0), [])
 | .pointer (some ⟨b, 0, none⟩) => some (.lit (.int .i64 ((b : Int) + 1)), [])
 | _ => none
theorem ppR_inv {v : Value} {x : Int} {ps : List MemPlace} (h : ppR v = some (.lit (.int .i64 x), ps)) : (x = 0 ∧ v = .pointer none) ∨ ∃ b : Nat, x = (b : Int) + 1 ∧ v = .pointer (some ⟨b, 0, none⟩) := by
 unfold ppR at h
 split at h
 ·simp only [Option.some.injEq, Prod.mk.injEq, DataW.lit.injEq, Lit.int.injEq] at h
  exact .inl ⟨h.1.2.symm, rfl⟩
 ·simp only [Option.some.injEq, Prod.mk.injEq, DataW.lit.injEq, Lit.int.injEq] at h
  exact .inr ⟨_, h.1.2.symm, rfl⟩
 ·cases h
theorem pp_zero72 (w : World) : (zeroValue 72).run Try.prog w = .ok (.pointer none) w := by kernel_rfl
theorem pp_keyed : Maps.Keyed Try.prog 5 := Maps.int_keyed Try.underlying5
theorem pp_wf {b : Int} (h0 : 0 ≤ b) (h1 : b < 256) : (Lit.int .u8 b).wf = true := by
 simp [Lit.wf, IntKind.min, IntKind.max, IntKind.signed, IntKind.bits]; omega
theorem pp_key {b : Int} (h0 : 0 ≤ b) (h1 : b < 256) : keyOf Try.prog 5 (.int .u8 b) = some (.int .u8 b) := Maps.keyOf_int_mk Try.underlying5 (pp_wf h0 h1)
/-- The code of a node. -/
def ppCode (i : Nat) : Int := if i ≤ 256 then (i : Int) - 1 else (i : Int)
/-- Where a string with a byte more leads. -/
def ppTo (S : List (List Int)) (B : Nat → Nat) (i : Nat) (b : Int) : Int := if S.getD i [] ++ [b] ∈ S then (B (S.idxOf (S.getD i [] ++ [b])) : Int) + 1 else 0
def ppZ : DataW Unit := .lit (.int .i64 0)
theorem pp_owns {w w' : World} {m n : Nat} {D : DataW Unit} (h : w.ownsMap Try.prog 5 ppR m n D) (e : w'.heap[m]? = w.heap[m]?) : w'.ownsMap Try.prog 5 ppR m n D := by
 obtain ⟨es, clock, hb, h1, h2, h3⟩ := h
 exact ⟨es, clock, e.trans hb, h1, h2, h3⟩
theorem pp_apart {w : World} {m n g t : Nat} {D : DataW Unit} {cs : Array Value} (h : w.ownsMap Try.prog 5 ppR m n D) (hg : w.heap[g]? = some (.cells cs t (0, 0))) : g ≠ m := by
 rintro rfl
 obtain ⟨es, clock, hb, _⟩ := h
 rw [hg] at hb
 injection hb with hb
 cases hb
/-- The dictionary as it lies in memory: the strings, one a node, and each node's map. -/
structure PpT (base : Nat) (w : World) (S : List (List Int)) (B : Nat → Nat) (M : Nat → Option Nat) : Prop where
 node : ∀ i, i < S.length → base ≤ B i ∧ w.heap[B i]? = some (.cells #[.int .i64 (ppCode i), .map (M i)] 78 (0, 0))
 inj : ∀ i j, i < S.length → j < S.length → B i = B j → i = j
 injM : ∀ i j m, i < S.length → j < S.length → M i = some m → M j = some m → i = j
 maps : ∀ i m, i < S.length → M i = some m → base ≤ m ∧ ∃ D, w.ownsMap Try.prog 5 ppR m S.length D ∧ ∀ b, 0 ≤ b → b < 256 → D.atKey (.int .u8 b) ppZ = .lit (.int .i64 (ppTo S B i b))
 none_ : ∀ i, i < S.length → M i = none → ∀ b, S.getD i [] ++ [b] ∉ S
 nodup : S.Nodup
 closed : ∀ t b, t ++ [b] ∈ S → t ∈ S
def PpKeep (w w' : World) : Prop := w.heap.size ≤ w'.heap.size ∧ ∀ (k : Nat) (cs : Array Value) (t : Nat), w.heap[k]? = some (Obj.cells cs t (0, 0)) → t ≠ 78 → w'.heap[k]? = w.heap[k]?
theorem pp_getD {S : List (List Int)} {i : Nat} (h : i < S.length) : S.getD i [] = S[i] := by
 rw [List.getD_eq_getElem?_getD, List.getElem?_eq_getElem h]; rfl
theorem pp_mem {S : List (List Int)} {i : Nat} (h : i < S.length) : S.getD i [] ∈ S := by rw [pp_getD h]; exact List.getElem_mem h
theorem pp_idx {S : List (List Int)} {s : List Int} (h : s ∈ S) : S.idxOf s < S.length ∧ S.getD (S.idxOf s) [] = s := by
 have h1 := List.idxOf_lt_length_of_mem h
 exact ⟨h1, by rw [pp_getD h1]; exact List.getElem_idxOf h1⟩
theorem pp_same {S : List (List Int)} (hn : S.Nodup) {i j : Nat} (hi : i < S.length) (hj : j < S.length) (h : S.getD i [] = S.getD j []) : i = j := by
 rw [pp_getD hi, pp_getD hj] at h
 have hp := List.pairwise_iff_getElem.mp hn
 rcases Nat.lt_trichotomy i j with hlt | heq | hgt
 ·exact absurd h (hp i j hi hj hlt)
 ·exact heq
 ·exact absurd h.symm (hp j i hj hi hgt)
theorem pp_getD_app {S : List (List Int)} {i : Nat} (h : i < S.length) (s : List Int) : (S ++ [s]).getD i [] = S.getD i [] := by
 rw [pp_getD h, pp_getD (by rw [List.length_append]; omega), List.getElem_append_left h]
theorem pp_getD_new (S : List (List Int)) (s : List Int) : (S ++ [s]).getD S.length [] = s := by
 rw [pp_getD (by simp), List.getElem_append_right (Nat.le_refl _)]; simp
theorem pp_snoc {a b : List Int} {x y : Int} (h : a ++ [x] = b ++ [y]) : a = b ∧ x = y := by
 have := List.append_inj' h rfl
 exact ⟨this.1, by simpa using this.2⟩
/-- Where a string leads, with one string more. -/
theorem ppTo_old {S : List (List Int)} {B : Nat → Nat} {s : List Int} {nb i : Nat} {b : Int} (hi : i < S.length) (hne : S.getD i [] ++ [b] ≠ s) :
  ppTo (S ++ [s]) (fun j => if j = S.length then nb else B j) i b = ppTo S B i b := by
 unfold ppTo
 rw [pp_getD_app hi]
 by_cases h : S.getD i [] ++ [b] ∈ S
 ·rw [if_pos (List.mem_append_left _ h), if_pos h, List.idxOf_append, if_pos h]; dsimp only; rw [if_neg (Nat.ne_of_lt (pp_idx h).1)]
 ·rw [if_neg h, if_neg]
  intro hm
  rcases List.mem_append.mp hm with hm | hm
  ·exact h hm
  ·exact hne (List.mem_singleton.mp hm)
theorem ppTo_new {S : List (List Int)} {B : Nat → Nat} {nb i : Nat} {b : Int} (hi : i < S.length) (hn : S.getD i [] ++ [b] ∉ S) :
  ppTo (S ++ [S.getD i [] ++ [b]]) (fun j => if j = S.length then nb else B j) i b = (nb : Int) + 1 := by
 unfold ppTo
 rw [pp_getD_app hi, if_pos (List.mem_append_right _ (List.mem_singleton.mpr rfl)), List.idxOf_append, if_neg hn]
 simp
section
variable {base : Nat} {w : World} {S : List (List Int)} {B : Nat → Nat} {M : Nat → Option Nat}
theorem PpT.lt (h : PpT base w S B M) {i : Nat} (hi : i < S.length) : B i < w.heap.size := blk_lt (h.node i hi).2
/-- In a world where all of the dictionary stands as it stood. -/
theorem PpT.step {w' : World} (h : PpT base w S B M) (hk : ∀ k, base ≤ k → k < w.heap.size → w'.heap[k]? = w.heap[k]?) : PpT base w' S B M where
 node i hi := ⟨(h.node i hi).1, (hk _ (h.node i hi).1 (h.lt hi)).trans (h.node i hi).2⟩
 inj := h.inj
 injM := h.injM
 maps i m hi hm := by
  obtain ⟨h1, D, h2, h3⟩ := h.maps i m hi hm
  exact ⟨h1, D, pp_owns h2 (hk _ h1 h2.lt), h3⟩
 none_ := h.none_
 nodup := h.nodup
 closed := h.closed
theorem PpT.below {w' : World} (h : PpT base w S B M) (hb : Below w.heap.size w w') : PpT base w' S B M := h.step (fun k _ hk => hb.block k hk)
/-- Rows of another type are written: the dictionary stands. -/
theorem PpT.over {α : Type} {d : Kd α} {e b : Nat} {ok : Nat → Prop} {v : Value} {xs : List α} {w' : World} (h : PpT base w S B M) (hR : Kd.R d e w b ok v xs) (he : e ≠ 78) (hg : w.grownBy w' v.ownBlock) : PpT base w' S B M where
 node i hi := ⟨(h.node i hi).1, blk_grown (h.node i hi).2 hg (pp_ne (h.node i hi).2 (Kd.R_typed hR) he)⟩
 inj := h.inj
 injM := h.injM
 maps i m hi hm := by
  obtain ⟨h1, D, h2, h3⟩ := h.maps i m hi hm
  refine ⟨h1, D, pp_owns h2 (hg.block m h2.lt (fun e_ => ?_)), h3⟩
  obtain ⟨cells, hc⟩ := Kd.R_typed hR m e_.symm
  exact pp_apart h2 hc rfl
 none_ := h.none_
 nodup := h.nodup
 closed := h.closed
/-- A node without a map gets an empty one. -/
theorem PpT.give (h : PpT base w S B M) {i : Nat} (hi : i < S.length) (hm : M i = none) (hbase : base ≤ w.heap.size) :
  PpT base ((w.alloc (.map #[] 0)).setCell ⟨B i, 1, none⟩ (.map (some w.heap.size))) S B (fun j => if j = i then some w.heap.size else M j) where
 node j hj := by
  refine ⟨(h.node j hj).1, ?_⟩
  by_cases e : j = i
  ·subst e
   rw [if_pos rfl]
   exact blk_put (blk_alloc (h.node j hj).2 _) 1 _ rfl
  ·rw [if_neg e]
   exact blk_far (p := ⟨B i, 1, none⟩) (blk_alloc (h.node j hj).2 _) (fun e2 => e (h.inj j i hj hi e2)) _
 inj := h.inj
 injM j k m hj hk h1 h2 := by
  by_cases e : j = i <;> by_cases e2 : k = i
  ·rw [e, e2]
  ·rw [if_pos e] at h1
   rw [if_neg e2] at h2
   obtain ⟨_, D, h3, _⟩ := h.maps k m hk h2
   have := h3.lt
   injection h1 with h1
   omega
  ·rw [if_neg e] at h1
   rw [if_pos e2] at h2
   obtain ⟨_, D, h3, _⟩ := h.maps j m hj h1
   have := h3.lt
   injection h2 with h2
   omega
  ·rw [if_neg e] at h1
   rw [if_neg e2] at h2
   exact h.injM j k m hj hk h1 h2
 maps j m hj h1 := by
  by_cases e : j = i
  ·rw [if_pos e] at h1
   injection h1 with h1
   subst h1
   refine ⟨hbase, .map [], (pp_owns ((World.ownsMap_made w Try.prog 5 ppR).mono (Nat.zero_le _)) ?_), fun b _ _ => ?_⟩
   ·exact Below.heap_setCell _ _ _ _ (by have := h.lt hi; show w.heap.size ≠ B i; omega)
   ·unfold ppTo
    rw [e, if_neg (h.none_ i hi hm b)]
    rfl
  ·rw [if_neg e] at h1
   obtain ⟨h2, D, h3, h4⟩ := h.maps j m hj h1
   refine ⟨h2, D, pp_owns h3 ?_, h4⟩
   rw [Below.heap_setCell _ _ _ _ (Ne.symm (pp_apart h3 (h.node i hi).2)), Below.heap_alloc _ _ _ h3.lt]
 none_ j hj h1 := by
  by_cases e : j = i
  ·rw [if_pos e] at h1; cases h1
  ·rw [if_neg e] at h1; exact h.none_ j hj h1
 nodup := h.nodup
 closed := h.closed
/-- A node more, in the map of one. -/
theorem PpT.add (h : PpT base w S B M) {i m : Nat} {b : Int} (hi : i < S.length) (hm : M i = some m) (hb0 : 0 ≤ b) (hb1 : b < 256) (hn : S.getD i [] ++ [b] ∉ S) (hl : S.length ≤ 1000) (hbase : base ≤ w.heap.size) :
  ∃ w', (Instr.mapUpdate 76 (.map (some m)) (.int .u8 b) (.pointer (some ⟨w.heap.size, 0, none⟩))).run Try.prog (w.alloc (.cells #[.int .i64 (ppCode S.length), .map none] 78 (0, 0))) = .ok () w' ∧
   PpT base w' (S ++ [S.getD i [] ++ [b]]) (fun j => if j = S.length then w.heap.size else B j) (fun j => if j = S.length then none else M j) ∧
   (w.alloc (.cells #[.int .i64 (ppCode S.length), .map none] 78 (0, 0))).grownBy w' (some m) := by
 obtain ⟨hbm, D, hD, hat⟩ := h.maps i m hi hm
 have hD1 := hD.alloc (.cells #[.int .i64 (ppCode S.length), .map none] 78 (0, 0))
 have hmap : ∃ es, D = .map es := by obtain ⟨es, clock, _, _, _, e⟩ := hD; exact ⟨_, e⟩
 obtain ⟨w', hrun, hown, hg⟩ := hD1.update pp_keyed Try.underlying76 (by unfold maxLen; omega) (pp_key hb0 hb1) (show ppR (.pointer (some ⟨w.heap.size, 0, none⟩)) = some (.lit (.int .i64 ((w.heap.size : Int) + 1)), []) from rfl)
 refine ⟨w', hrun, ?_, hg⟩
 have hm_lt := hD.lt
 have old : ∀ k, k < w.heap.size → k ≠ m → w'.heap[k]? = w.heap[k]? := fun k hk hkm => by
  rw [hg.block k (by rw [World.size_alloc]; omega) (fun e => hkm (by injection e)), Below.heap_alloc _ _ _ hk]
 have hlen : (S ++ [S.getD i [] ++ [b]]).length = S.length + 1 := by simp
 exact {
  node := fun j hj => by
   rw [hlen] at hj
   by_cases e : j = S.length
   ·subst e
    rw [if_pos rfl, if_pos rfl]
    refine ⟨hbase, ?_⟩
    rw [hg.block _ (by rw [World.size_alloc]; omega) (fun e => by injection e with e; omega)]
    exact blk_new _ _
   ·rw [if_neg e, if_neg e]
    have hj' : j < S.length := by omega
    exact ⟨(h.node j hj').1, (old _ (h.lt hj') (pp_apart hD (h.node j hj').2)).trans (h.node j hj').2⟩
  inj := fun j k hj hk e => by
   rw [hlen] at hj hk
   by_cases e1 : j = S.length <;> by_cases e2 : k = S.length
   ·rw [e1, e2]
   ·rw [if_pos e1, if_neg e2] at e
    have := h.lt (show k < S.length by omega); omega
   ·rw [if_neg e1, if_pos e2] at e
    have := h.lt (show j < S.length by omega); omega
   ·rw [if_neg e1, if_neg e2] at e
    exact h.inj j k (by omega) (by omega) e
  injM := fun j k q hj hk h1 h2 => by
   rw [hlen] at hj hk
   by_cases e1 : j = S.length
   ·rw [if_pos e1] at h1; cases h1
   by_cases e2 : k = S.length
   ·rw [if_pos e2] at h2; cases h2
   rw [if_neg e1] at h1
   rw [if_neg e2] at h2
   exact h.injM j k q (by omega) (by omega) h1 h2
  maps := fun j q hj h1 => by
   rw [hlen] at hj ⊢
   by_cases e1 : j = S.length
   ·rw [if_pos e1] at h1; cases h1
   rw [if_neg e1] at h1
   have hj' : j < S.length := by omega
   by_cases e2 : j = i
   ·subst e2
    rw [hm] at h1
    injection h1 with h1
    subst h1
    refine ⟨hbm, _, hown, fun x aF aG => ?_⟩
    by_cases ex : x = b
    ·subst ex
     rw [ppTo_new hi hn, Maps.atKey_put_same hmap (by simp [WideAt.IsKeyLit])]
    ·rw [Maps.atKey_put_other (by intro e; injection e with _ e; exact ex e), hat x aF aG, ppTo_old hi (fun e => ex (pp_snoc e).2)]
   ·obtain ⟨h2, D2, h3, h4⟩ := h.maps j q hj' h1
    have hqm : q ≠ m := fun e => e2 (h.injM j i m hj' hi (e ▸ h1) hm)
    refine ⟨h2, D2, (pp_owns h3 (old q h3.lt hqm)).mono (Nat.le_succ _), fun x aF aG => ?_⟩
    rw [h4 x aF aG, ppTo_old hj' (fun e => e2 (pp_same h.nodup hj' hi (pp_snoc e).1))]
  none_ := fun j hj h1 x hx => by
   rw [hlen] at hj
   by_cases e1 : j = S.length
   ·subst e1
    rw [pp_getD_new] at hx
    rcases List.mem_append.mp hx with hx | hx
    ·exact hn (h.closed _ _ hx)
    ·have := congrArg List.length (List.mem_singleton.mp hx)
     simp at this
   ·rw [if_neg e1] at h1
    have hj' : j < S.length := by omega
    rw [pp_getD_app hj'] at hx
    rcases List.mem_append.mp hx with hx | hx
    ·exact h.none_ j hj' h1 x hx
    ·have := pp_same h.nodup hj' hi (pp_snoc (List.mem_singleton.mp hx)).1
     subst this
     rw [hm] at h1; cases h1
  nodup := by
   rw [List.nodup_append]
   refine ⟨h.nodup, by simp, fun a ha c hc => ?_⟩
   rw [List.mem_singleton.mp hc]
   exact fun e => hn (e ▸ ha)
  closed := fun t x hx => by
   rcases List.mem_append.mp hx with hx | hx
   ·exact List.mem_append_left _ (h.closed t x hx)
   ·rw [(pp_snoc (List.mem_singleton.mp hx)).1]
    exact List.mem_append_left _ (pp_mem hi) }
end
theorem pp_wp_update {P : Program} {w w' : World} {ops : Array Oper} {rest : List Oper} {o : Oper} {a : Act} {Q : Exit → Act → World → Prop} (hg : o.guard = none) (t : TypeId) (m x v : Operand) (hop : o.op = Op.mapUpdate t m x v) {mv key val : Value}
  (hm : a.eval m = mv) (hx : a.eval x = key) (hv : a.eval v = val) (hrun : (Instr.mapUpdate t mv key val).run P w = .ok () w') (h : wpList P ops Q rest (a.put o.dst undef) w') : wpList P ops Q (o :: rest) a w := by
 refine wpList_plain hg fun K' hK' => ?_
 unfold Oper.wp
 simp [execOp, hop, hm, hx, hv, hrun, Result.andThen]
 exact hK' _ _ h
theorem pp_wp_lookup {P : Program} {w : World} {ops : Array Oper} {rest : List Oper} {o : Oper} {a : Act} {Q : Exit → Act → World → Prop} (hg : o.guard = none) (t : TypeId) (m x : Operand) (hop : o.op = Op.lookup t m x false) {mv key v : Value}
  (hm : a.eval m = mv) (hx : a.eval x = key) (hrun : (Instr.lookup t mv key false).run P w = .ok v w) (h : wpList P ops Q rest (a.put o.dst v) w) : wpList P ops Q (o :: rest) a w := by
 refine wpList_plain hg fun K' hK' => ?_
 unfold Oper.wp
 simp [execOp, hop, hm, hx, hrun, Result.andThen]
 exact hK' _ _ h
theorem pp_nil_lookup (w : World) {b : Int} (h0 : 0 ≤ b) (h1 : b < 256) : (Instr.lookup 76 (.map none) (.int .u8 b) false).run Try.prog w = .ok (.pointer none) w := by
 rcases pp_keyed.find w (pp_key h0 h1) [] (by simp) with ⟨f1, _⟩ | ⟨j, e0, _, f2, _⟩
 ·simp [Instr.lookup, run_underlying Try.underlying76, pp_keyed.check w _ (pp_key h0 h1), f1, pp_zero72, Result.andThen]
 ·simp at f2
theorem PpKeep.refl (w : World) : PpKeep w w := ⟨Nat.le_refl _, fun _ _ _ _ _ => rfl⟩
theorem PpKeep.row {α : Type} {d : Kd α} {w w' : World} {e b : Nat} {ok : Nat → Prop} {v : Value} {xs : List α} (hk : PpKeep w w') (hR : Kd.R d e w b ok v xs) (he : ∀ q, q ∈ e :: d.E → q ≠ 78) : Kd.R d e w' b ok v xs :=
 Kd.R_mono (Kd.R_move (Kd.R_bound hR) (fun k h => by obtain ⟨_, _, _, q, hq, cells, hc⟩ := h; exact hk.2 k cells q hc (he q hq))) (fun _ h => h.1)
theorem pp_keep_add {w w' : World} {m : Nat} {o : Obj} {es : Array MapEntry} {clock : Nat} (hm : w.heap[m]? = some (.map es clock)) (hg : (w.alloc o).grownBy w' (some m)) : PpKeep w w' := by
 refine ⟨Nat.le_trans (by rw [World.size_alloc]; omega) hg.size, fun k cs t hk ht => ?_⟩
 have hlt := blk_lt hk
 rw [hg.block k (by rw [World.size_alloc]; omega) (fun e => ?_), Below.heap_alloc _ _ _ hlt]
 injection e with e
 subst e
 rw [hm] at hk
 injection hk with hk
 cases hk
/-- The dictionary with strings more: the elder nodes stand where they stood. -/
def PpDone (base : Nat) (w' : World) (n : Nat) (S' : List (List Int)) (B : Nat → Nat) : Prop := ∃ B' M', PpT base w' S' B' M' ∧ ∀ j, j < n → B' j = B j
theorem pp_keep_give {w : World} {g : Nat} {cs : Array Value} {u : Value} (hg : w.heap[g]? = some (.cells cs 78 (0, 0))) : PpKeep w ((w.alloc (.map #[] 0)).setCell ⟨g, 1, none⟩ u) := by
 refine ⟨by rw [World.size_setCell, World.size_alloc]; omega, fun k cs2 t hk ht => ?_⟩
 have hne : k ≠ g := by
  rintro rfl
  rw [hg] at hk
  injection hk with hk
  injection hk with _ hk
  exact ht hk.symm
 rw [Below.heap_setCell _ _ _ _ hne, Below.heap_alloc _ _ _ (blk_lt hk)]
theorem PpKeep.trans {w w1 w2 : World} (h : PpKeep w w1) (k : PpKeep w1 w2) : PpKeep w w2 :=
 ⟨Nat.le_trans h.1 k.1, fun i cs t hi ht => by
  have h1 := h.2 i cs t hi ht
  rw [k.2 i cs t (h1.trans hi) ht, h1]⟩
set_option maxHeartbeats 8000000 in
set_option maxRecDepth 100000 in
theorem pp_enter (w0 w : World) (S S' : List (List Int)) (B : Nat → Nat) (M : Nat → Option Nat) (i g : Nat) (b c : Int) (hgi : B i = g) (hc : c = ppCode S.length) (hS : S' = S ++ [S.getD i [] ++ [b]]) (hT : PpT w0.heap.size w S B M) (hB : Below w0.heap.size w0 w) (hi : i < S.length) (hl : S.length ≤ 1000) (hb0 : 0 ≤ b) (hb1 : b < 256) (hn : S.getD i [] ++ [b] ∉ S) :
  Calls Try.prog 55 #[.pointer (some ⟨g, 0, none⟩), .int .u8 b, .int .i64 c] w fun e w' => e = .returned (.tuple #[]) ∧ Below w0.heap.size w0 w' ∧ PpDone w0.heap.size w' S.length S' B ∧ PpKeep w w' := by
 subst hgi
 have hu78 := Try.underlying78
 have hu76 := Try.underlying76
 have hu72 := Try.underlying72
 have hg := (hT.node i hi).2
 have aB := blk_cell hg 0
 have aA := blk_cell hg 1
 have hf1 := blk_frozen hg 1
 simp only [List.getElem?_toArray, List.getElem?_cons_zero, List.getElem?_cons_succ] at aB aA
 have hq := run_eql_map_nil (P := Try.prog) w 76 5 72 (M i) Try.underlying76
 have hbs := hB.size
 cases hm : M i with
 | none =>
  rw [hm] at aA hq
  have hT2 := hT.give hi hm hbs
  have hmk := run_makeMap (P := Try.prog) 76 w
  have hga := blk_alloc hg (.map #[] 0)
  have hca := blk_cell hga 1
  have hfa := blk_frozen hga 1
  simp only [List.getElem?_toArray, List.getElem?_cons_zero, List.getElem?_cons_succ] at hca
  have hgs := blk_put hga 1 (.map (some w.heap.size)) rfl
  have hcs := blk_cell hgs 1
  simp only [List.setIfInBounds_toArray, List.set_cons_zero, List.set_cons_succ, List.getElem?_toArray, List.getElem?_cons_zero, List.getElem?_cons_succ] at hcs
  have hbase2 : w0.heap.size ≤ ((w.alloc (.map #[] 0)).setCell ⟨B i, 1, none⟩ (.map (some w.heap.size))).heap.size := Nat.le_trans hbs (by rw [World.size_setCell, World.size_alloc]; omega)
  have hb2 : Below w0.heap.size w0 ((w.alloc (.map #[] 0)).setCell ⟨B i, 1, none⟩ (.map (some w.heap.size))) := below_set (hB.alloc hbs _) (hT.node i hi).1
  obtain ⟨w', hrun, hT3, hg3⟩ := hT2.add hi (by rw [if_pos rfl]) hb0 hb1 hn hl hbase2
  rw [World.size_setCell, World.size_alloc] at hrun
  rw [← hc] at hrun hg3
  rw [← hS] at hT3
  have hk3 : PpKeep ((w.alloc (.map #[] 0)).setCell ⟨B i, 1, none⟩ (.map (some w.heap.size))) w' := by
   obtain ⟨es, clock, hes, _⟩ := (hT2.maps i w.heap.size hi (by rw [if_pos rfl])).2.choose_spec.1
   exact pp_keep_add hes hg3
  have HF : Aside0 (Below w0.heap.size w0 w' ∧ PpDone w0.heap.size w' S.length S' B ∧ PpKeep w w') := ⟨(hb2.alloc hbase2 _).grown hg3 (Nat.le_trans hbase2 (by rw [World.size_alloc]; omega)) (fun k e => by injection e with e; subst e; exact hbs), ⟨_, _, hT3, fun j hj => if_neg (Nat.ne_of_lt hj)⟩, (pp_keep_give hg).trans hk3⟩
  clear hT3 hg3 hT hT2 hB hb2 hk3 hn hS hc
  go_enter Try.func55, Try.ntmps55
  go_wp2_with (at_mapUpdate; refine pp_wp_update rfl _ _ _ _ rfl rfl rfl rfl hrun ?_)
  refine bodyPost_end (results_none rfl _ _ _) rfl ?_
  exact ⟨rfl, HF.out⟩
 | some m =>
  rw [hm] at aA hq
  obtain ⟨w', hrun, hT3, hg3⟩ := hT.add hi hm hb0 hb1 hn hl hbs
  rw [← hc] at hrun hg3
  rw [← hS] at hT3
  obtain ⟨hbm, D, ⟨es, clock, hes, _⟩, _⟩ := hT.maps i m hi hm
  have HF : Aside0 (Below w0.heap.size w0 w' ∧ PpDone w0.heap.size w' S.length S' B ∧ PpKeep w w') := ⟨(hB.alloc hbs _).grown hg3 (Nat.le_trans hbs (by rw [World.size_alloc]; omega)) (fun k e => by injection e with e; subst e; exact hbm), ⟨_, _, hT3, fun j hj => if_neg (Nat.ne_of_lt hj)⟩, pp_keep_add hes hg3⟩
  clear hT3 hg3 hT hB hn hS hc
  go_enter Try.func55, Try.ntmps55
  go_wp2_with (at_mapUpdate; refine pp_wp_update rfl _ _ _ _ rfl rfl rfl rfl hrun ?_)
  refine bodyPost_end (results_none rfl _ _ _) rfl ?_
  exact ⟨rfl, HF.out⟩
/-- The longest string of the dictionary that a list begins with. -/
def PpFound (S : List (List Int)) (B : Nat → Nat) (l : List Int) (e : Ending) : Prop :=
 ∃ j n : Nat, j < S.length ∧ n ≤ l.length ∧ S.getD j [] = l.take n ∧ ¬ (n < l.length ∧ l.take (n + 1) ∈ S) ∧ e = .returned (.tuple #[.pointer (some ⟨B j, 0, none⟩), .int .i64 (n : Int)])
theorem PpT.look {base : Nat} {w : World} {S : List (List Int)} {B : Nat → Nat} {M : Nat → Option Nat} (h : PpT base w S B M) {j : Nat} {x : Int} (hj : j < S.length) (h0 : 0 ≤ x) (h1 : x < 256) :
  (S.getD j [] ++ [x] ∈ S ∧ (Instr.lookup 76 (.map (M j)) (.int .u8 x) false).run Try.prog w = .ok (.pointer (some ⟨B (S.idxOf (S.getD j [] ++ [x])), 0, none⟩)) w) ∨
  (S.getD j [] ++ [x] ∉ S ∧ (Instr.lookup 76 (.map (M j)) (.int .u8 x) false).run Try.prog w = .ok (.pointer none) w) := by
 cases hm : M j with
 | none => exact .inr ⟨h.none_ j hj hm x, pp_nil_lookup w h0 h1⟩
 | some m =>
  obtain ⟨_, D, hD, hat⟩ := h.maps j m hj hm
  obtain ⟨v, ps, hrun, hv⟩ := hD.lookup (zd := ppZ) (zp := []) pp_keyed Try.underlying76 (pp_zero72 w) rfl (pp_key h0 h1)
  rw [hat x h0 h1] at hv
  unfold ppTo at hv
  by_cases hx : S.getD j [] ++ [x] ∈ S
  ·rw [if_pos hx] at hv
   rcases ppR_inv hv with ⟨e, _⟩ | ⟨b, e, rfl⟩
   ·omega
   ·have : b = B (S.idxOf (S.getD j [] ++ [x])) := by omega
    subst this
    exact .inl ⟨hx, hrun⟩
  ·rw [if_neg hx] at hv
   rcases ppR_inv hv with ⟨_, rfl⟩ | ⟨b, e, _⟩
   ·exact .inr ⟨hx, hrun⟩
   ·omega
set_option maxHeartbeats 8000000 in
set_option maxRecDepth 100000 in
theorem pp_longest (g base : Nat) (w : World) (S : List (List Int)) (B : Nat → Nat) (M : Nat → Option Nat) (l : List Int) (A : Option Addr) (c : Nat) (hgr : B 0 = g) (hT : PpT base w S B M) (hC : Kd.C (Kd.int .u8) w A l.length l) (hcap : l.length ≤ c) (hb : ∀ x ∈ l, 0 ≤ x ∧ x < 256) (hs : 0 < S.length) (h0 : S.getD 0 [] = []) (hlen : l.length ≤ 1000) :
  Calls Try.prog 54 #[.pointer (some ⟨g, 0, none⟩), .slice A l.length c] w fun e w' => w' = w ∧ PpFound S B l e := by
 subst hgr
 have hu78 := Try.underlying78
 have hu76 := Try.underlying76
 have hu72 := Try.underlying72
 have HT := Aside0.mk hT
 have HC := Aside0.mk hC
 have HB := Aside0.mk hb
 have H0 : Aside0 (0 < S.length ∧ S.getD 0 [] = l.take 0) := ⟨hs, by rw [h0]; rfl⟩
 clear hT hC hb h0 hs
 go_enter Try.func54, Try.ntmps54
 go_wp2_with (fail)
 go_loopw [6, 7, 8, 9, 13] (fun v6 v7 v8 v9 aK wr => ∃ i j : Nat, i ≤ l.length ∧ aK = .int .i64 (i : Int) ∧ v6 = .pointer (some ⟨B j, 0, none⟩) ∧ Aside0 (j < S.length ∧ S.getD j [] = l.take i) ∧ Aside0 (wr = w)) (fun _ _ _ _ i _ => l.length - (intOf i).toNat)
 case atStart => exact ⟨0, 0, Nat.zero_le _, rfl, rfl, H0, ⟨rfl⟩⟩
 case round =>
  clear H0
  obtain ⟨i, j, hi, rfl, rfl, HJ, HW⟩ := hrel
  rename World => wr
  obtain rfl := HW.out
  clear HW
  by_cases hlt : i < l.length
  ·obtain ⟨ad, had, hel⟩ := Kd.at_int HC.out (i : Int) (Int.natCast_nonneg _) (by omega)
   cases had
   have hrd : rd l (i : Int) = l[i] := by
    unfold rd
    rw [Int.toNat_natCast, List.getD_eq_getElem?_getD, List.getElem?_eq_getElem hlt]; rfl
   have hx := HB.out l[i] (List.getElem_mem hlt)
   have HTK : Aside0 (l.take (i + 1) = l.take i ++ [l[i]]) := ⟨List.take_succ_eq_append_getElem hlt⟩
   rw [hrd] at hel
   clear hrd
   generalize l[i] = x at hel hx HTK
   have hg := (HT.out.node j HJ.out.1).2
   have aA := blk_cell hg 1
   simp only [List.getElem?_toArray, List.getElem?_cons_zero, List.getElem?_cons_succ] at aA
   clear hg
   rw [Int.toNat_natCast] at hel
   have hlt' : ((i : Int) < (l.length : Int)) = True := eq_true (by omega)
   rcases HT.out.look HJ.out.1 hx.1 hx.2 with ⟨hin, hrun⟩ | ⟨hin, hrun⟩
   ·have HIN := Aside0.mk (pp_idx hin)
    generalize S.idxOf (S.getD j [] ++ [x]) = j' at hrun HIN
    have aJ : Aside0 (j' < S.length ∧ S.getD j' [] = l.take (i + 1)) := ⟨HIN.out.1, by rw [HIN.out.2, HTK.out, HJ.out.2]⟩
    clear hin HIN
    go_wp2_with (at_lookup; refine pp_wp_lookup rfl _ _ _ rfl rfl rfl hrun ?_)
    go_roundw
    case rel => exact ⟨i + 1, j', by omega, by go_num, rfl, aJ, ⟨(by first | rfl | trivial)⟩⟩
    case measure => simp [intOf]; omega
   ·have HIN : Aside0 (¬ (i < l.length ∧ l.take (i + 1) ∈ S)) := ⟨fun h => hin (by rw [HJ.out.2, ← HTK.out]; exact h.2)⟩
    clear hin
    go_wp2_with (at_lookup; refine pp_wp_lookup rfl _ _ _ rfl rfl rfl hrun ?_)
    go_ret2
    exact ⟨rfl, j, i, HJ.out.1, hi, HJ.out.2, HIN.out, rfl⟩
  ·obtain rfl : i = l.length := by omega
   go_wp2_with (fail)
   go_ret2
   exact ⟨rfl, j, l.length, HJ.out.1, Nat.le_refl _, HJ.out.2, fun h => Nat.lt_irrefl _ h.1, rfl⟩
/-- The dictionary with all single bytes, so far. -/
def ppS (n : Nat) : List (List Int) := [] :: (List.range n).map (fun b : Nat => [(b : Int)])
theorem ppS_len (n : Nat) : (ppS n).length = n + 1 := by simp [ppS]
theorem ppS_succ (n : Nat) : ppS (n + 1) = ppS n ++ [[(n : Int)]] := by simp [ppS, List.range_succ]
theorem ppS_zero (n : Nat) : (ppS n).getD 0 [] = [] := rfl
theorem ppS_mem {n : Nat} {s : List Int} : s ∈ ppS n ↔ s = [] ∨ ∃ b : Nat, b < n ∧ s = [(b : Int)] := by
 unfold ppS
 rw [List.mem_cons, List.mem_map]
 constructor
 ·rintro (h | ⟨b, h1, h2⟩)
  ·exact .inl h
  ·exact .inr ⟨b, List.mem_range.mp h1, h2.symm⟩
 ·rintro (h | ⟨b, h1, h2⟩)
  ·exact .inl h
  ·exact .inr ⟨b, List.mem_range.mpr h1, h2.symm⟩
def PpRoot (base : Nat) (w' : World) (e : Ending) : Prop := ∃ B M, PpT base w' (ppS 256) B M ∧ e = .returned (.pointer (some ⟨B 0, 0, none⟩))
theorem PpT.root (w : World) : PpT w.heap.size (w.alloc (.cells #[.int .i64 (-1), .map none] 78 (0, 0))) (ppS 0) (fun _ => w.heap.size) (fun _ => none) where
 node i hi := by
  obtain rfl : i = 0 := by rw [ppS_len] at hi; omega
  exact ⟨Nat.le_refl _, blk_new w _⟩
 inj i j hi hj _ := by rw [ppS_len] at hi hj; omega
 injM i j m _ _ h := by cases h
 maps i m _ h := by cases h
 none_ i hi _ b h := by
  rw [ppS_mem] at h
  rcases h with h | ⟨b, hb, _⟩
  ·simp at h
  ·omega
 nodup := by decide
 closed t b h := by
  rw [ppS_mem] at h
  rcases h with h | ⟨b, hb, _⟩
  ·simp at h
  ·omega
theorem ppCode_at (n : Nat) (h : n ≤ 255) : (n : Int) = ppCode (ppS n).length := by
 rw [ppS_len]; unfold ppCode; rw [if_pos (by omega)]; omega
theorem ppS_new (n : Nat) : (ppS n).getD 0 [] ++ [(n : Int)] ∉ ppS n := by
 intro h
 rw [ppS_mem, ppS_zero] at h
 rcases h with h | ⟨b, hb, h⟩
 ·simp at h
 ·simp at h; omega
set_option maxHeartbeats 8000000 in
set_option maxRecDepth 100000 in
theorem pp_new (w : World) : Calls Try.prog 53 #[] w fun e w' => PpRoot w.heap.size w' e ∧ Below w.heap.size w w' := by
 have hu78 := Try.underlying78
 have HT0 := Aside0.mk (PpT.root w)
 have aH := Aside0.mk (below_alloc (Below.refl w.heap.size w) (.cells #[.int .i64 (-1), .map none] 78 (0, 0)))
 go_enter Try.func53, Try.ntmps53
 go_wp2_with (fail)
 go_loopw [2, 5] (fun v2 v5 wr => ∃ (n : Nat) (B : Nat → Nat) (M : Nat → Option Nat), n ≤ 256 ∧ v5 = .int .i64 (n : Int) ∧ Aside0 (PpT w.heap.size wr (ppS n) B M) ∧ Aside0 (B 0 = w.heap.size) ∧ Aside0 (Below w.heap.size w wr)) (fun _ i _ => 256 - (intOf i).toNat)
 case atStart => exact ⟨0, _, _, Nat.zero_le _, rfl, HT0, ⟨rfl⟩, aH⟩
 case round =>
  clear HT0 aH
  obtain ⟨n, B, M, hn, rfl, HT, H0, HB⟩ := hrel
  rename World => wr
  by_cases hlt : n < 256
  ·have d1 : decide ((n : Int) < 256) = true := decide_eq_true (by omega)
   have hw : IntKind.u8.wrap (n : Int) = (n : Int) := by unfold IntKind.wrap; simp [IntKind.bits, IntKind.signed]; omega
   go_wp2_with (go_at_call 55; refine (pp_enter w wr (ppS n) (ppS (n + 1)) B M 0 w.heap.size (n : Int) (n : Int) H0.out (ppCode_at n (by omega)) (by rw [ppS_succ]; rfl) HT.out HB.out (by rw [ppS_len]; omega) (by rw [ppS_len]; omega) (by omega) (by omega) (ppS_new n)).mono ?_; rintro e w2 ⟨rfl, hb2, ⟨B', M', hT2, hB2⟩, _⟩; have HT2 := Aside0.mk hT2; have aI := Aside0.mk hb2; have H02 := Aside0.mk ((hB2 0 (by rw [ppS_len]; omega)).trans H0.out); clear hT2 hb2 hB2)
   go_roundw
   case rel => exact ⟨n + 1, B', M', by omega, by go_num, HT2, H02, aI⟩
   case measure => simp [intOf]; omega
  ·obtain rfl : n = 256 := by omega
   go_wp2_with (fail)
   go_ret
   exact ⟨⟨B, M, HT.out, by rw [H0.out]; rfl⟩, HB.out⟩
def impl_PakPut.f (k : Nat) (l : List Int) : Option (List Int) :=
 if (l.length : Int) > 200 then some [] else if l.all (fun x => decide (0 ≤ x ∧ x < 256)) = true then impl_BitPut.f k ((pkCodes l).map (fun c => (⟨c, 9⟩ : S36)) ++ [⟨256, 9⟩]) else none
theorem impl_PakPut.mono : ∀ a0 k, LeO (impl_PakPut.f k a0) (impl_PakPut.f (k + 1) a0) := by
 intro a0 k
 unfold impl_PakPut.f
 exact LeO.ite (LeO.refl _) (LeO.ite (impl_BitPut.mono _ _) (LeO.refl _))
theorem ppG_ge (met : List (List Int)) (r : List Int) : ∀ f n, n ≤ pkGrow met r f n
 | 0, n => Nat.le_refl n
 | f + 1, n => by
  unfold pkGrow
  split
  ·exact Nat.le_trans (Nat.le_succ n) (ppG_ge met r f (n + 1))
  ·exact Nat.le_refl n
theorem ppG_le (met : List (List Int)) (r : List Int) : ∀ f n, n ≤ r.length → pkGrow met r f n ≤ r.length
 | 0, n, h => h
 | f + 1, n, h => by
  unfold pkGrow
  split
  ·rename_i hc; exact ppG_le met r f (n + 1) hc.1
  ·exact h
theorem ppG_eq (met : List (List Int)) (r : List Int) : ∀ f n m, n ≤ m → m ≤ f + n → (∀ i, n ≤ i → i < m → i < r.length ∧ r.take (i + 1) ∈ met) → ¬ (m < r.length ∧ r.take (m + 1) ∈ met) → pkGrow met r f n = m
 | 0, n, m, h1, h2, _, _ => by unfold pkGrow; omega
 | f + 1, n, m, h1, h2, h3, h4 => by
  unfold pkGrow
  rcases Nat.lt_or_ge n m with h | h
  ·rw [if_pos (h3 n (Nat.le_refl n) h)]
   exact ppG_eq met r f (n + 1) m h (by omega) (fun i h5 h6 => h3 i (by omega) h6) h4
  ·obtain rfl : n = m := by omega
   rw [if_neg h4]
theorem ppE_fuel : ∀ (f g : Nat) (met : List (List Int)) (r : List Int), r.length ≤ f → r.length ≤ g → pkEnc f met r = pkEnc g met r
 | 0, g, met, r, h, _ => by
  obtain rfl : r = [] := List.length_eq_zero_iff.mp (by omega)
  cases g <;> simp [pkEnc]
 | f + 1, 0, met, r, _, h => by
  obtain rfl : r = [] := List.length_eq_zero_iff.mp (by omega)
  simp [pkEnc]
 | f + 1, g + 1, met, r, h, h2 => by
  unfold pkEnc
  by_cases hr : r = []
  ·rw [if_pos hr, if_pos hr]
  ·rw [if_neg hr, if_neg hr]
   have h1 : 1 ≤ pkLen met r := ppG_ge met r r.length 1
   rw [ppE_fuel f g _ _ (by rw [List.length_drop]; omega) (by rw [List.length_drop]; omega)]
theorem ppE_step (met : List (List Int)) {r : List Int} (hr : r ≠ []) : pkEnc r.length met r = pkCode met (r.take (pkLen met r)) :: pkEnc (r.drop (pkLen met r)).length (pkMet met r (pkLen met r)) (r.drop (pkLen met r)) := by
 have hl : r.length ≠ 0 := fun e => hr (List.length_eq_zero_iff.mp e)
 have h1 : 1 ≤ pkLen met r := ppG_ge met r r.length 1
 obtain ⟨f, hf⟩ : ∃ f, r.length = f + 1 := ⟨r.length - 1, by omega⟩
 conv => lhs; rw [hf]
 unfold pkEnc
 rw [if_neg hr, ppE_fuel f (r.drop (pkLen met r)).length _ _ (by rw [List.length_drop]; omega) (Nat.le_refl _)]
 cases hd : (r.drop (pkLen met r)).length <;> rfl
/-- Where the packer stands. -/
def PpInv (l r : List Int) (met : List (List Int)) (cs : List S36) : Prop :=
 cs ++ (pkEnc r.length met r).map (fun c => (⟨c, 9⟩ : S36)) = (pkCodes l).map (fun c => (⟨c, 9⟩ : S36)) ∧ met.length + r.length ≤ 200 ∧ cs.length + r.length ≤ 200 ∧ (∀ x ∈ r, 0 ≤ x ∧ x < 256) ∧ ∀ s ∈ met, 2 ≤ s.length
theorem pp_in {met : List (List Int)} {s : List Int} : s ∈ ppS 256 ++ met ↔ s = [] ∨ (∃ b : Nat, b < 256 ∧ s = [(b : Int)]) ∨ s ∈ met := by
 rw [List.mem_append, ppS_mem, or_assoc]
/-- What the search finds is what the packer takes. -/
theorem pp_find {met : List (List Int)} {r : List Int} {j n : Nat} (hnd : (ppS 256 ++ met).Nodup) (hcl : ∀ t b, t ++ [b] ∈ ppS 256 ++ met → t ∈ ppS 256 ++ met) (hm2 : ∀ s ∈ met, 2 ≤ s.length) (hr : r ≠ []) (hb : ∀ x ∈ r, 0 ≤ x ∧ x < 256)
  (hj : j < (ppS 256 ++ met).length) (hn : n ≤ r.length) (hs : (ppS 256 ++ met).getD j [] = r.take n) (hst : ¬ (n < r.length ∧ r.take (n + 1) ∈ ppS 256 ++ met)) : pkLen met r = n ∧ ppCode j = pkCode met (r.take n) := by
 have hl : r.length ≠ 0 := fun e => hr (List.length_eq_zero_iff.mp e)
 have aC : 1 ≤ n := by
  refine Classical.byContradiction fun h0 => hst ?_
  obtain rfl : n = 0 := by omega
  refine ⟨by omega, ?_⟩
  rw [pp_in]
  refine .inr (.inl ?_)
  obtain ⟨x, r', rfl⟩ : ∃ x r', r = x :: r' := by cases r with | nil => exact absurd rfl hr | cons x r' => exact ⟨x, r', rfl⟩
  have := hb x (by simp)
  exact ⟨x.toNat, by omega, by simp; omega⟩
 have hin : ∀ i, i ≤ n → r.take i ∈ ppS 256 ++ met := by
  intro i hi
  obtain ⟨d, rfl⟩ : ∃ d, n = i + d := ⟨n - i, by omega⟩
  clear hst
  have h0 : r.take (i + d) ∈ ppS 256 ++ met := hs ▸ pp_mem hj
  clear hs aC hi
  induction d with
  | zero => exact h0
  | succ d ih =>
   rw [show i + (d + 1) = (i + d) + 1 by omega, List.take_succ_eq_append_getElem (by omega)] at h0
   exact ih (by omega) (hcl _ _ h0)
 have two : ∀ i, 2 ≤ i → i ≤ r.length → r.take i ∈ ppS 256 ++ met → r.take i ∈ met := by
  intro i h2 hi h
  rw [pp_in] at h
  have hlen : (r.take i).length = i := by rw [List.length_take]; omega
  rcases h with h | ⟨b, _, h⟩ | h
  ·rw [h] at hlen; simp at hlen; omega
  ·rw [h] at hlen; simp at hlen; omega
  ·exact h
 constructor
 ·refine ppG_eq met r r.length 1 n aC (by omega) (fun i h1 h2 => ⟨by omega, two _ (by omega) (by omega) (hin _ (by omega))⟩) (fun h => hst ⟨h.1, ?_⟩)
  rw [pp_in]; exact .inr (.inr h.2)
 ·have hlen : (r.take n).length = n := by rw [List.length_take]; omega
  unfold pkCode ppCode
  by_cases h1 : n = 1
  ·subst h1
   rw [if_pos hlen]
   have hmem : r.take 1 ∈ ppS 256 := by
    have := hin 1 (Nat.le_refl _)
    rcases List.mem_append.mp this with h | h
    ·exact h
    ·have := hm2 _ h; omega
   have hi := pp_idx hmem
   have hjj : j = (ppS 256).idxOf (r.take 1) := by
    refine pp_same hnd hj (by rw [List.length_append]; omega) ?_
    rw [hs, List.getD_eq_getElem?_getD, List.getElem?_append_left hi.1, ← List.getD_eq_getElem?_getD, hi.2]
   rw [ppS_mem] at hmem
   rcases hmem with h | ⟨b, hb1, h⟩
   ·rw [h] at hlen; simp at hlen
   have hb2 : j = b + 1 := by
    refine pp_same hnd hj (by rw [List.length_append, ppS_len]; omega) ?_
    rw [hs, h, List.getD_eq_getElem?_getD, List.getElem?_append_left (by rw [ppS_len]; omega)]
    simp [ppS, List.getElem?_map, List.getElem?_range hb1]
   rw [if_pos (by omega), h, hb2]
   simp
  ·have hmem : r.take n ∈ met := two n (by omega) hn (hin n (Nat.le_refl _))
   have h2 : pkAt met (r.take n) < met.length := List.findIdx_lt_length_of_exists ⟨_, hmem, beq_self_eq_true _⟩
   have h3 : met[pkAt met (r.take n)] = r.take n := eq_of_beq (List.findIdx_getElem (w := h2))
   have hjj : j = 257 + pkAt met (r.take n) := by
    refine pp_same hnd hj (by rw [List.length_append, ppS_len]; omega) ?_
    rw [hs, List.getD_eq_getElem?_getD, List.getElem?_append_right (by rw [ppS_len]; omega), ppS_len, show 257 + pkAt met (r.take n) - (256 + 1) = pkAt met (r.take n) by omega, List.getElem?_eq_getElem h2, h3]
    rfl
   rw [if_neg (show ¬ j ≤ 256 by omega), if_neg (show ¬ (r.take n).length = 1 by omega), hjj]
   omega
theorem pp_next {l q : List Int} {met : List (List Int)} {cs : List S36} {n : Nat} (hI : PpInv l q met cs) (hq : q ≠ []) (hn : pkLen met q = n) : PpInv l (q.drop n) (pkMet met q n) (cs ++ [⟨pkCode met (q.take n), 9⟩]) := by
 obtain ⟨h1, h2, h3, h4, h5⟩ := hI
 have aC : 1 ≤ n := hn ▸ ppG_ge met q q.length 1
 have hl : q.length ≠ 0 := fun e => hq (List.length_eq_zero_iff.mp e)
 have hml : (pkMet met q n).length ≤ met.length + 1 := by unfold pkMet; split <;> simp
 refine ⟨?_, by rw [List.length_drop]; omega, by rw [List.length_drop, List.length_append, List.length_singleton]; omega, fun x hx => h4 x (List.mem_of_mem_drop hx), fun s hs => ?_⟩
 ·rw [← h1, ppE_step met hq, hn]
  simp
 ·unfold pkMet at hs
  split at hs
  ·rcases List.mem_append.mp hs with hs | hs
   ·exact h5 s hs
   ·rw [List.mem_singleton.mp hs, List.length_take]; omega
  ·exact h5 s hs
def ppLenOf (v : Value) : Nat := match v with
 | .slice _ n _ => n
 | _ => 0
set_option maxHeartbeats 8000000 in
set_option maxRecDepth 100000 in
theorem impl_PakPut.calls (k : Nat) (A0 : Option Addr) (c0 : Nat) (l0 : List Int) (r : List Int) (w : World) (hr0 : Kd.C (Kd.int .u8) w A0 l0.length l0) (aB : l0.length ≤ c0) (h : impl_PakPut.f k l0 = some r) :
  Calls Try.prog 32 #[.slice A0 l0.length c0] w fun e w' => ∃ v : Value, e = .returned v ∧ Kd.R (Kd.int .u8) 5 w' w.heap.size (fun _ => True) v r ∧ Below w.heap.size w w' := by
 have hu78 := Try.underlying78
 have hu36 := Try.underlying36
 unfold impl_PakPut.f at h
 have HC := Aside0.mk hr0
 have HCc := Aside0.mk aB
 clear hr0 aB
 by_cases c1 : (l0.length : Int) > 200
 ·rw [if_pos c1] at h
  have d1 : decide (200 < (l0.length : Int)) = true := decide_eq_true c1
  have d1n : decide (200 < l0.length) = true := decide_eq_true (by omega)
  obtain rfl := Option.some.inj h
  go_enter Try.func32, Try.ntmps32
  go_wp2_with (fail)
  go_ret
  exact ⟨_, rfl, Kd.R_nil _ _ _ _ _, by first | exact Below.refl _ _ | exact below_drew1 (Below.refl _ _)⟩
 ·rw [if_neg c1] at h
  have d1 : decide (200 < (l0.length : Int)) = false := decide_eq_false c1
  have d1n : decide (200 < l0.length) = false := decide_eq_false (by omega)
  by_cases c2 : l0.all (fun x => decide (0 ≤ x ∧ x < 256)) = true
  ·rw [if_pos c2] at h
   have HF := Aside0.mk h
   clear h
   have HI : Aside0 (PpInv l0 l0 [] []) := ⟨rfl, by simp; omega, by simp; omega, fun x hx => by simpa using List.all_eq_true.mp c2 x hx, fun s hs => by cases hs⟩
   clear c2
   go_enter Try.func32, Try.ntmps32
   go_wp2_with (go_at_call 53; refine (pp_new w).mono ?_; rintro e w1 ⟨⟨B, M, hT, rfl⟩, hb⟩; have HT := Aside0.mk hT; have HB := Aside0.mk hb; clear hT hb)
   generalize hgr : B 0 = gr
   go_loopw [4, 5, 6, 7, 8] (fun v4 v5 v6 v7 v8 wr => ∃ (q : List Int) (met : List (List Int)) (cs : List S36) (B : Nat → Nat) (M : Nat → Option Nat) (A : Option Addr) (c : Nat), v5 = .int .i64 (257 + (met.length : Int)) ∧ v6 = .slice A q.length c ∧ Aside0 (PpT w.heap.size wr (ppS 256 ++ met) B M) ∧ Aside0 (B 0 = gr) ∧ Aside0 (Kd.R k36 36 wr w.heap.size (fun _ => True) v4 cs) ∧ Aside0 (Below w.heap.size w wr) ∧ Aside0 (Kd.C (Kd.int .u8) w A q.length q ∧ q.length ≤ c) ∧ Aside0 (PpInv l0 q met cs)) (fun _ _ v6 _ _ _ => ppLenOf v6)
   case atStart => exact ⟨l0, [], [], B, M, A0, c0, rfl, rfl, ⟨(by rw [List.append_nil]; exact HT.out)⟩, ⟨hgr⟩, ⟨Kd.R_nil _ _ _ _ _⟩, HB, ⟨HC.out, HCc.out⟩, HI⟩
   case round =>
    clear HT HB HI HC HCc hgr
    obtain ⟨q, met, cs, B, M, A, c, rfl, rfl, HT, H0, HR, HB, HQ, HI⟩ := hrel
    rename World => wr
    have hmq := HI.out.2.1
    have hcq := HI.out.2.2.1
    by_cases hq : q = []
    ·subst hq
     have HCS : Aside0 (cs = (pkCodes l0).map (fun c => (⟨c, 9⟩ : S36))) := ⟨(by have := HI.out.1; simpa [pkEnc] using this)⟩
     simp only [List.length_nil, Nat.add_zero] at hcq hmq
     go_wp2_with (first | ((with_reducible refine gate_builtin (b := .append) (xs := #[.tmp 49, .tmp 51]) rfl ?_); (try (refine gate_guard (by rfl) ?_; dsimp only)); at_builtin; refine Kd.R_append k36 (w0 := w) w.heap.size rfl (.tmp 49) (.tmp 51) 26 36 (.agg #[(.int .i64 0), (.int .i64 0)]) 16 rfl Try.underlying26 info36 rfl oD (by omega) u4 cs (⟨256, 9⟩ : S36) [.int .i64 256, .int .i64 9] (fun _ => True) (fun _ => False) rfl rfl (k36_mkM _ _ _ (⟨256, 9⟩ : S36)) (fun _ hk => hk.elim) (fun _ _ => trivial) HR.out HB.out HB.out.size (by omega) ?_; intro va wa ho hb hga hat; rw [HCS.out] at ho; generalize hlx : (pkCodes l0).map (fun c => (⟨c, 9⟩ : S36)) ++ [(⟨256, 9⟩ : S36)] = lx at ho HF; obtain ⟨Aa, ca, rfl⟩ := Kd.R_slice ho; have HRa := Aside0.mk ho; have HBa := Aside0.mk hb; clear ho hb hga hat hlx) | (go_at_call 16; refine (impl_BitPut.calls k Aa ca lx r _ (Kd.R_reads' HRa.out).2.2 (Kd.R_reads' HRa.out).2.1 HF.out).mono ?_; rintro e w3 ⟨vr, rfl, hr3, hb3⟩; have aE := Aside0.mk (Kd.R_lower hr3 HBa.out.size); have aD := Aside0.mk (below_step HBa.out hb3); clear hr3 hb3))
     go_ret
     exact ⟨_, rfl, aE.out, aD.out⟩
    ·have hql : q.length ≠ 0 := fun e => hq (List.length_eq_zero_iff.mp e)
     have d2 : decide (0 < (q.length : Int)) = true := decide_eq_true (by omega)
     have d2n : decide (0 < q.length) = true := decide_eq_true (by omega)
     go_upto_region 9 with (go_at_call 54; refine (pp_longest gr w.heap.size wr (ppS 256 ++ met) B M q A c H0.out HT.out (Kd.C_below HQ.out.1 HB.out) HQ.out.2 HI.out.2.2.2.1 (by rw [List.length_append, ppS_len]; omega) rfl (by omega)).mono ?_; rintro e w2 ⟨rfl, j, n, hj, hn, hs, hst, rfl⟩; have HJ := Aside0.mk (And.intro hj (And.intro hs hst)); clear hj hs hst)
     obtain ⟨hlen, hcode⟩ := pp_find HT.out.nodup HT.out.closed HI.out.2.2.2.2 hq HI.out.2.2.2.1 HJ.out.1 hn HJ.out.2.1 HJ.out.2.2
     have aC : 1 ≤ n := hlen ▸ ppG_ge met q q.length 1
     have HN := pp_next HI.out hq hlen
     rw [← hcode] at HN
     have HN2 := Aside0.mk HN
     clear HN hcode
     have hnode := (HT.out.node j HJ.out.1).2
     have kn0 := blk_cell hnode 0
     simp only [List.getElem?_toArray, List.getElem?_cons_zero, List.getElem?_cons_succ] at kn0
     clear hnode
     obtain ⟨i0, hi0, _, hsz, _⟩ := info_parts info5
     obtain ⟨A', hcut, hA', hC'⟩ := print_drop_of (P := Try.prog) (Value.int .u8) 0 24 5 .i64 Try.underlying24 hi0 hsz A c q (n : Int) (by omega) (by omega) HQ.out.2
     have hcq' := Kd.C_of_reads (h1 := fun _ => rfl) (hA' _ (Kd.reads_of_C HQ.out.1))
     rw [Int.toNat_natCast] at hcut hC' hcq'
     have HQ2 := Aside0.mk (And.intro hcq' hC')
     clear hcq' hC' hA' hi0 hsz
     have HDL : Aside0 ((q.drop n).length = q.length - n) := ⟨List.length_drop⟩
     by_cases hlt : n < q.length
     ·have HME : Aside0 (pkMet met q n = met ++ [q.take (n + 1)] ∧ q.take (n + 1) = q.take n ++ [q[n]]) := ⟨by unfold pkMet; rw [if_pos hlt], List.take_succ_eq_append_getElem hlt⟩
      have hx := HI.out.2.2.2.1 q[n] (List.getElem_mem hlt)
      have hrd : rd (q.drop n) 0 = q[n] := by simp [rd, List.getD_eq_getElem?_getD, List.getElem?_drop, List.getElem?_eq_getElem hlt]
      have HLT := Aside0.mk (And.intro hlt hlen)
      generalize q[n] = x at hx hrd HME
      generalize pkMet met q n = met' at HN2 HME
      obtain ⟨rfl, HME2⟩ := HME.out
      have HST : Aside0 ((ppS 256 ++ met).getD j [] ++ [x] ∉ ppS 256 ++ met) := ⟨fun h => HJ.out.2.2 ⟨hlt, by rw [HME2, ← HJ.out.2.1]; exact h⟩⟩
      have HSE : Aside0 (ppS 256 ++ (met ++ [q.take (n + 1)]) = (ppS 256 ++ met) ++ [(ppS 256 ++ met).getD j [] ++ [x]]) := ⟨(by rw [HJ.out.2.1, ← HME2, List.append_assoc])⟩
      have HLN : Aside0 ((ppS 256 ++ met).length = 257 + met.length) := ⟨(by have := ppS_len 256; rw [List.length_append]; omega)⟩
      have HML : Aside0 ((met ++ [q.take (n + 1)]).length = met.length + 1) := ⟨(by simp)⟩
      clear HME HME2 hlen
      have hql2 : 0 < (q.drop n).length := by rw [HDL.out]; omega
      have hql3 : (q.drop n).length < q.length := by rw [HDL.out]; omega
      generalize q.drop n = q' at HN2 HQ2 hcut hrd hql2 hql3
      have e2 : decide (0 < (q'.length : Int)) = true := decide_eq_true (by omega)
      have aL : decide (0 < q'.length) = true := decide_eq_true hql2
      have e3 : decide (257 + (met.length : Int) < 512) = true := decide_eq_true (by omega)
      have hw : IntKind.i64.wrap (257 + (met.length : Int) + 1) = 257 + (met.length : Int) + 1 := by rw [i64_w]; unfold wrap64; omega
      obtain ⟨ad, had, hel⟩ := Kd.at_int HQ2.out.1 0 (Int.le_refl _) (by omega)
      cases had
      (try rw [show ((0 : Int)).toNat = 0 from rfl] at hel)
      (try rw [Addr.add_zero'] at hel)
      rw [hrd] at hel
      have hi0' : (0 < q'.length) = True := eq_true hql2
      have HEL := Aside0.mk hel
      clear hel
      go_upto_region 12 with ((with_reducible refine gate_builtin (b := .append) (xs := #[.tmp 23, .tmp 29]) rfl ?_); (try (refine gate_guard (by rfl) ?_; dsimp only)); at_builtin; refine Kd.R_append k36 (w0 := w) w.heap.size rfl (.tmp 23) (.tmp 29) 26 36 (.agg #[(.int .i64 0), (.int .i64 0)]) 16 rfl Try.underlying26 info36 rfl oD (by omega) u4 cs (⟨ppCode j, 9⟩ : S36) [.int .i64 (ppCode j), .int .i64 9] (fun _ => True) (fun _ => False) rfl rfl (k36_mkM _ _ _ (⟨ppCode j, 9⟩ : S36)) (fun _ hk => hk.elim) (fun _ _ => trivial) HR.out HB.out HB.out.size (by omega) ?_; intro va wa ho hb hga hat; have HTa := Aside0.mk (HT.out.over HR.out oD hga); have HRa := Aside0.mk ho; have HBa := Aside0.mk hb; clear ho hb hga hat)
      have hel2 := (HBa.out.cell (World.block_lt_of_cell? _ _ HEL.out)).trans HEL.out
      go_wp2_with (go_at_call 55; refine (pp_enter w wa (ppS 256 ++ met) (ppS 256 ++ (met ++ [q.take (n + 1)])) B M j (B j) x (257 + (met.length : Int)) rfl (by rw [HLN.out]; unfold ppCode; rw [if_neg (by omega)]; omega) HSE.out HTa.out HBa.out HJ.out.1 (by rw [HLN.out]; omega) hx.1 hx.2 HST.out).mono ?_; rintro e w3 ⟨rfl, hb3, ⟨B3, M3, hT3, hB3⟩, hk3⟩; have HT3 := Aside0.mk hT3; have aD := Aside0.mk hb3; have aE := Aside0.mk (hk3.row HRa.out oD); have H03 := Aside0.mk ((hB3 0 (by rw [HLN.out]; omega)).trans H0.out); clear hT3 hb3 hB3 hk3)
      go_roundw
      case rel => exact ⟨q', _, _, B3, M3, _, _, by rw [HML.out]; go_num, rfl, HT3, H03, aE, aD, HQ2, HN2⟩
      case measure => exact hql3
     ·have hne : n = q.length := by omega
      have HME : Aside0 (pkMet met q n = met) := ⟨(by unfold pkMet; rw [if_neg hlt])⟩
      have hql3 : (q.drop n).length = 0 := by rw [HDL.out]; omega
      rw [HME.out] at HN2
      clear hlen
      have HNE := Aside0.mk hne
      clear hne hlt
      generalize q.drop n = q' at HN2 HQ2 hcut hql3
      obtain rfl : q' = [] := List.length_eq_zero_iff.mp hql3
      clear hql3
      go_wp2_with ((with_reducible refine gate_builtin (b := .append) (xs := #[.tmp 23, .tmp 29]) rfl ?_); (try (refine gate_guard (by rfl) ?_; dsimp only)); at_builtin; refine Kd.R_append k36 (w0 := w) w.heap.size rfl (.tmp 23) (.tmp 29) 26 36 (.agg #[(.int .i64 0), (.int .i64 0)]) 16 rfl Try.underlying26 info36 rfl oD (by omega) u4 cs (⟨ppCode j, 9⟩ : S36) [.int .i64 (ppCode j), .int .i64 9] (fun _ => True) (fun _ => False) rfl rfl (k36_mkM _ _ _ (⟨ppCode j, 9⟩ : S36)) (fun _ hk => hk.elim) (fun _ _ => trivial) HR.out HB.out HB.out.size (by omega) ?_; intro va wa ho hb hga hat; have HTa := Aside0.mk (HT.out.over HR.out oD hga); have HRa := Aside0.mk ho; have HBa := Aside0.mk hb; clear ho hb hga hat)
      go_roundw
      case rel => exact ⟨[], met, _, B, M, _, _, rfl, rfl, HTa, H0, HRa, HBa, HQ2, HN2⟩
      case measure => show 0 < q.length; omega
  ·rw [if_neg c2] at h; cases h

end Go.Proofs.Ytfnkaccncmjnaaa.X
