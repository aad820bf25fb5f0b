/- What folding comes to, by the program and by the reference: one and the same, of all lists. No condition but that lengths are none beyond memory. -/
import Derived.Test.YtjkaalcocgioaaaPlOpOk
import Derived.Test.YtjkaalcocgioaaaX0
import Derived.Test.YtjkaalcocgioaaaX6
import Derived.Test.YtjkaalcocgioaaaX10
import Derived.Test.YtjkaalcocgioaaaX11
import Derived.Test.YtjkaalcocgioaaaX14
import Derived.Test.YtjkaalcocgioaaaX16
import Derived.Test.YtjkaalcocgioaaaX27
import Derived.Test.YtjkaalcocgioaaaX28
import Derived.Test.YtjkaalcocgioaaaX29
import Derived.Test.YtjkaalcocgioaaaX30
import Derived.Test.YtjkaalcocgioaaaX31
import Derived.Test.YtjkaalcocgioaaaX32
namespace Go.Proofs.Ytjkaalcocgioaaa.Pl
open Go Go.RowKit Go.Proofs.Ytjkaalcocgioaaa.X Go.Proofs.YtjkaalcocgioaaaW.PrintWords Go.Proofs.YtjkaalcocgioaaaW.PrintLast Go.Proofs.YtjkaalcocgioaaaW.PrintMore
def GoodO (o : S25) : Prop := OpP o.f0 o.f1 o.f2 o.f3 o.f4
instance (o : S25) : Decidable (GoodO o) := by unfold GoodO; infer_instance
/-- A list of operations that may be done. -/
def AllO (l : List S25) : Prop := l.length ≤ 5 ∧ ∀ o ∈ l, GoodO o
instance (l : List S25) : Decidable (AllO l) := by unfold AllO; infer_instance
theorem rdO {xs : List S25} {i : Nat} (h : i < xs.length) : rd_T25 xs (i : Int) = xs[i] := of_rd h
theorem allO_drop {l : List S25} {i : Nat} (h : i < l.length) : (∀ p ∈ l.drop i, GoodO p) ↔ GoodO l[i] ∧ ∀ p ∈ l.drop (i + 1), GoodO p := by
  rw [List.drop_eq_getElem_cons h]; exact List.forall_mem_cons
theorem implOps_l (l : List S25) (hl : l.length ≤ 1099511627776) : ∀ (d i k : Nat), i + d = l.length → d + 1 < k → impl_opsOk.l0 k l (l.length : Int) (i : Int) = some (decide (∀ p ∈ l.drop i, GoodO p)) := by
  intro d
  induction d with
  | zero =>
    intro i k hi hk
    obtain ⟨k, rfl⟩ : ∃ m, k = m + 1 := ⟨k - 1, by omega⟩
    simp only [impl_opsOk.l0]
    rw [if_neg (by omega), List.drop_of_length_le (by omega)]; simp
  | succ d ih =>
    intro i k hi hk
    obtain ⟨k, rfl⟩ : ∃ m, k = m + 1 := ⟨k - 1, by omega⟩
    have hil : i < l.length := by omega
    simp only [impl_opsOk.l0]
    rw [if_pos (by omega), if_pos (by omega), if_pos (by omega), rdO hil, implOpOk_ok _ _ _ _ _ k (by omega), Option.bind_some]
    by_cases hp : GoodO l[i]
    · rw [if_pos (show decide (OpP l[i].f0 l[i].f1 l[i].f2 l[i].f3 l[i].f4) = true from decide_eq_true hp), w64 (by omega) (by omega)]
      have e := ih (i + 1) k (by omega) (by omega)
      rw [Int.natCast_add] at e
      refine e.trans ?_
      congr 1
      rw [decide_eq_decide, allO_drop hil]
      exact ⟨fun h => ⟨hp, h⟩, fun h => h.2⟩
    · rw [if_neg (show ¬ decide (OpP l[i].f0 l[i].f1 l[i].f2 l[i].f3 l[i].f4) = true from fun h => hp (of_decide_eq_true h))]
      congr 1; symm
      rw [decide_eq_false_iff_not, allO_drop hil]
      exact fun h => hp h.1
theorem implOpsOk_ok (l : List S25) (hl : l.length ≤ 1099511627776) (k : Nat) (hk : 10 ≤ k) : impl_opsOk.f k l = some (decide (AllO l)) := by
  unfold impl_opsOk.f
  by_cases h : (l.length : Int) > 5
  · rw [if_pos h]; congr 1; symm
    rw [decide_eq_false_iff_not]
    exact fun g => by have := g.1; omega
  · rw [if_neg h]
    have e := implOps_l l hl l.length 0 k (Nat.zero_add _) (by omega)
    refine e.trans ?_
    congr 1
    rw [decide_eq_decide, List.drop_zero]
    exact ⟨fun g => And.intro (by omega) g, fun g => g.2⟩
theorem specAll_l (l : List S25) (hl : l.length ≤ 1099511627776) : ∀ (d i k : Nat), i + d = l.length → d < k → spec_l6All.l0 k l (i : Int) = some (decide (l.length ≤ 5 ∧ ∀ p ∈ l.drop i, GoodO p)) := by
  intro d
  induction d with
  | zero =>
    intro i k hi hk
    obtain ⟨k, rfl⟩ : ∃ m, k = m + 1 := ⟨k - 1, by omega⟩
    simp only [spec_l6All.l0]
    rw [if_neg (by omega), List.drop_of_length_le (by omega)]
    congr 1
    rw [decide_eq_decide]
    exact ⟨fun h => ⟨by omega, fun _ h => by cases h⟩, fun h => by have := h.1; omega⟩
  | succ d ih =>
    intro i k hi hk
    obtain ⟨k, rfl⟩ : ∃ m, k = m + 1 := ⟨k - 1, by omega⟩
    have hil : i < l.length := by omega
    simp only [spec_l6All.l0]
    rw [if_pos (by omega), if_pos (by omega), rdO hil, specOpOk_ok, Option.bind_some]
    by_cases hp : GoodO l[i]
    · rw [if_pos (show decide (OpP l[i].f0 l[i].f1 l[i].f2 l[i].f3 l[i].f4) = true from decide_eq_true hp), w64 (by omega) (by omega)]
      have e := ih (i + 1) k (by omega) (by omega)
      rw [Int.natCast_add] at e
      refine e.trans ?_
      congr 1
      rw [decide_eq_decide, allO_drop hil]
      exact ⟨fun h => ⟨h.1, hp, h.2⟩, fun h => ⟨h.1, h.2.2⟩⟩
    · rw [if_neg (show ¬ decide (OpP l[i].f0 l[i].f1 l[i].f2 l[i].f3 l[i].f4) = true from fun h => hp (of_decide_eq_true h))]
      congr 1; symm
      rw [decide_eq_false_iff_not, allO_drop hil]
      exact fun h => hp h.2.1
theorem specAll_ok (l : List S25) (hl : l.length ≤ 1099511627776) (k : Nat) (hk : l.length < k) : spec_l6All.f k l = some (decide (AllO l)) := by
  unfold spec_l6All.f
  have e := specAll_l l hl l.length 0 k (Nat.zero_add _) hk
  refine e.trans (congrArg some ?_)
  rw [decide_eq_decide, List.drop_zero]
  exact Iff.rfl
/-- What two operations come to. -/
def pairR (a b : S25) : Option (List S25) :=
  if a.f0 = b.f0 then
    if a.f0 = 2 ∨ a.f0 = 3 then some []
    else if a.f0 = 5 ∨ a.f0 = 8 ∨ (a.f0 = 7 ∧ a.f1 = b.f1 ∧ a.f2 = b.f2 ∧ a.f3 = b.f3 ∧ a.f4 = b.f4) then some [a]
    else if a.f0 = 1 ∧ wrap64 (b.f1 + b.f3) ≤ a.f3 ∧ wrap64 (b.f2 + b.f4) ≤ a.f4 ∧ wrap64 (a.f1 + b.f1) < 6 ∧ wrap64 (a.f2 + b.f2) < 6 then some [⟨1, wrap64 (a.f1 + b.f1), wrap64 (a.f2 + b.f2), b.f3, b.f4⟩]
    else none
  else none
def foundR (o : Option (List S25)) : List S25 × Bool := match o with
  | some q => (q, true)
  | none => ([], false)
theorem specPair_ok (a b : S25) (k : Nat) (hk : 3 ≤ k) : spec_l6Pair.f k a.f0 a.f1 a.f2 a.f3 a.f4 b.f0 b.f1 b.f2 b.f3 b.f4 = some (foundR (pairR a b)) := by
  obtain ⟨k, rfl⟩ : ∃ m, k = m + 1 + 1 := ⟨k - 2, by omega⟩
  obtain ⟨a0, a1, a2, a3, a4⟩ := a
  obtain ⟨b0, b1, b2, b3, b4⟩ := b
  unfold spec_l6Pair.f pairR
  dsimp only
  by_cases h : a0 = b0
  · subst h
    rw [if_pos rfl, if_pos rfl]
    simp only [spec_l6Pair.j0, spec_l6Pair.j1]
    by_cases h2 : a0 = 2
    · subst h2; simp [foundR]
    by_cases h3 : a0 = 3
    · subst h3; simp [foundR]
    by_cases h5 : a0 = 5
    · subst h5; simp [foundR]
    by_cases h8 : a0 = 8
    · subst h8; simp [foundR]
    by_cases h7 : a0 = 7
    · subst h7
      by_cases g1 : a1 = b1 <;> by_cases g2 : a2 = b2 <;> by_cases g3 : a3 = b3 <;> by_cases g4 : a4 = b4 <;> simp [foundR, g1, g2, g3, g4]
    by_cases h1 : a0 = 1
    · subst h1
      by_cases g1 : wrap64 (b1 + b3) ≤ a3 <;> by_cases g2 : wrap64 (b2 + b4) ≤ a4 <;> by_cases g3 : wrap64 (a1 + b1) < 6 <;> by_cases g4 : wrap64 (a2 + b2) < 6 <;> simp [foundR, g1, g2, g3, g4]
    · simp [foundR, h1, h2, h3, h5, h7, h8]
  · rw [if_neg h, if_neg h]; rfl
theorem part_cons {l : List S25} {i u : Nat} (h : i < l.length) : of_part l i (u + 1) = l[i] :: of_part l (i + 1) u := by
  unfold of_part
  rw [show i + 1 + u = i + (u + 1) by omega, List.drop_eq_getElem_cons (show i < (l.take (i + (u + 1))).length by rw [List.length_take]; omega)]
  congr 1
  rw [List.getElem_take]
theorem part_nil (l : List S25) (i : Nat) : of_part l i 0 = [] := by
  unfold of_part
  exact List.drop_of_length_le (by rw [List.length_take]; omega)
theorem part_two {l : List S25} {y : Nat} (h : y + 2 ≤ l.length) : of_part l y 2 = [l[y], l[y + 1]] := by
  rw [part_cons (show y < l.length by omega), part_cons (show y + 1 < l.length by omega), part_nil]
theorem hit_short {l : List S25} {y j : Nat} (h : ¬ y + 2 ≤ l.length) : of_hit l y j = false := by
  unfold of_hit
  have := of_size_le j
  rw [decide_eq_false (by omega), Bool.false_and]
/-- What a place comes to. -/
def atR (l : List S25) (y : Nat) : Option (List S25) :=
  if of_hit l y 0 = true then some (l.take y ++ [] ++ l.drop (y + 4))
  else if h : y + 2 ≤ l.length then (pairR l[y] l[y + 1]).map fun q => l.take y ++ q ++ l.drop (y + 2)
  else none
theorem at_ok (l : List S25) (y : Nat) : of_at l y 7 0 = atR l y := by
  unfold atR
  by_cases h0 : of_hit l y 0 = true
  · rw [if_pos h0]
    show (if of_hit l y 0 = true then some (of_new l y 0) else of_at l y 6 1) = _
    rw [if_pos h0]; rfl
  rw [if_neg h0]
  show (if of_hit l y 0 = true then some (of_new l y 0) else if of_hit l y 1 = true then some (of_new l y 1) else if of_hit l y 2 = true then some (of_new l y 2) else if of_hit l y 3 = true then some (of_new l y 3) else if of_hit l y 4 = true then some (of_new l y 4) else if of_hit l y 5 = true then some (of_new l y 5) else if of_hit l y 6 = true then some (of_new l y 6) else none) = _
  rw [if_neg h0]
  by_cases hy : y + 2 ≤ l.length
  · rw [dif_pos hy]
    have hp := part_two hy
    have new (j : Nat) (hj : 1 ≤ j) : of_new l y j = l.take y ++ of_bec j [l[y], l[y + 1]] ++ l.drop (y + 2) := by
      unfold of_new of_size
      rw [if_neg (by omega), hp]
    have hit (j : Nat) (hj : 1 ≤ j) : of_hit l y j = of_app j [l[y], l[y + 1]] := by
      unfold of_hit of_size
      rw [if_neg (by omega), hp, decide_eq_true hy, Bool.true_and]
    rw [new 1 (by omega), new 2 (by omega), new 3 (by omega), new 4 (by omega), new 5 (by omega), new 6 (by omega), hit 1 (by omega), hit 2 (by omega), hit 3 (by omega), hit 4 (by omega), hit 5 (by omega), hit 6 (by omega)]
    generalize l[y] = a
    generalize l[y + 1] = b
    have r0 : rd_T25 [a, b] 0 = a := rfl
    have r1 : rd_T25 [a, b] 1 = b := rfl
    obtain ⟨a0, a1, a2, a3, a4⟩ := a
    obtain ⟨b0, b1, b2, b3, b4⟩ := b
    have n6 : of_app 6 [⟨a0, a1, a2, a3, a4⟩, ⟨b0, b1, b2, b3, b4⟩] = decide (a0 = 1 ∧ b0 = 1 ∧ wrap64 (b1 + b3) ≤ a3 ∧ wrap64 (b2 + b4) ≤ a4 ∧ wrap64 (a1 + b1) < 6 ∧ wrap64 (a2 + b2) < 6) := by
      show (impl_nested.f _).getD false = _
      unfold impl_nested.f
      rw [r0, r1]
      by_cases g0 : a0 = 1 <;> by_cases g5 : b0 = 1 <;> by_cases g1 : wrap64 (b1 + b3) ≤ a3 <;> by_cases g2 : wrap64 (b2 + b4) ≤ a4 <;> by_cases g3 : wrap64 (a1 + b1) < 6 <;> by_cases g4 : wrap64 (a2 + b2) < 6 <;> simp [g0, g1, g2, g3, g4, g5]
    have b6 : of_bec 6 [⟨a0, a1, a2, a3, a4⟩, ⟨b0, b1, b2, b3, b4⟩] = [⟨1, wrap64 (a1 + b1), wrap64 (a2 + b2), b3, b4⟩] := by
      rw [show of_bec 6 [⟨a0, a1, a2, a3, a4⟩, ⟨b0, b1, b2, b3, b4⟩] = (impl_joined.f [⟨a0, a1, a2, a3, a4⟩, ⟨b0, b1, b2, b3, b4⟩]).getD [] from rfl]
      unfold impl_joined.f
      rw [r0, r1]
      simp
    have n5 : of_app 5 [⟨a0, a1, a2, a3, a4⟩, ⟨b0, b1, b2, b3, b4⟩] = decide (a0 = 7 ∧ a0 = b0 ∧ a1 = b1 ∧ a2 = b2 ∧ a3 = b3 ∧ a4 = b4) := by
      show of_same _ = _
      unfold of_same
      rw [r0, r1, Bool.eq_iff_iff]
      simp
    have nk (j : Nat) (q : Int) (hj : ∀ p, of_app j p = of_all q p) : of_app j [⟨a0, a1, a2, a3, a4⟩, ⟨b0, b1, b2, b3, b4⟩] = decide (a0 = q ∧ b0 = q) := by
      rw [hj]
      unfold of_all
      rw [Bool.eq_iff_iff]
      simp
    rw [nk 1 2 (fun _ => rfl), nk 2 3 (fun _ => rfl), nk 3 5 (fun _ => rfl), nk 4 8 (fun _ => rfl), n5, n6, b6]
    unfold pairR
    simp only [decide_eq_true_eq]
    by_cases h : a0 = b0
    · subst h
      rw [if_pos rfl]
      by_cases h2 : a0 = 2
      · subst h2; simp [of_bec]
      by_cases h3 : a0 = 3
      · subst h3; simp [of_bec]
      by_cases h5 : a0 = 5
      · subst h5; simp [of_bec]
      by_cases h8 : a0 = 8
      · subst h8; simp [of_bec]
      by_cases h7 : a0 = 7
      · subst h7
        by_cases g1 : a1 = b1 <;> by_cases g2 : a2 = b2 <;> by_cases g3 : a3 = b3 <;> by_cases g4 : a4 = b4 <;> simp [of_bec, g1, g2, g3, g4]
      by_cases h1 : a0 = 1
      · subst h1
        by_cases g1 : wrap64 (b1 + b3) ≤ a3 <;> by_cases g2 : wrap64 (b2 + b4) ≤ a4 <;> by_cases g3 : wrap64 (a1 + b1) < 6 <;> by_cases g4 : wrap64 (a2 + b2) < 6 <;> simp [g1, g2, g3, g4]
      · simp [h1, h2, h3, h5, h7, h8]
    · rw [if_neg h, if_neg (by omega), if_neg (by omega), if_neg (by omega), if_neg (by omega), if_neg (by omega), if_neg (by omega)]; rfl
  · rw [dif_neg hy, hit_short hy, hit_short hy, hit_short hy, hit_short hy, hit_short hy, hit_short hy]; rfl
theorem specFour_l (l : List S25) (y : Nat) (hl : l.length ≤ 1000) (hy : y ≤ 1000) : ∀ (u t k : Nat), t + u = 4 → y + t ≤ l.length → u < k → spec_l6Four.l0 k l (y : Int) ((y + t : Nat) : Int) = some (decide (y + 4 ≤ l.length) && of_all 4 (of_part l (y + t) u)) := by
  intro u
  induction u with
  | zero =>
    intro t k ht hyt hk
    obtain ⟨k, rfl⟩ : ∃ m, k = m + 1 := ⟨k - 1, by omega⟩
    simp only [spec_l6Four.l0]
    rw [w64 (by omega) (by omega), if_neg (by omega), part_nil, decide_eq_true (by omega)]; rfl
  | succ u ih =>
    intro t k ht hyt hk
    obtain ⟨k, rfl⟩ : ∃ m, k = m + 1 := ⟨k - 1, by omega⟩
    simp only [spec_l6Four.l0]
    rw [w64 (x := (y : Int) + 4) (by omega) (by omega), if_pos (by omega)]
    by_cases he : y + t < l.length
    · rw [if_neg (by omega), if_pos (by omega), if_pos (by omega), rdO he, part_cons he, w64 (by omega) (by omega)]
      have e := ih (t + 1) k (by omega) (by omega) (by omega)
      rw [show ((y + (t + 1) : Nat) : Int) = ((y + t : Nat) : Int) + 1 by omega] at e
      by_cases hf : l[y + t].f0 = 4
      · rw [if_pos hf, e]
        congr 2
        unfold of_all
        rw [List.all_cons, hf]; rfl
      · rw [if_neg hf]
        congr 1; symm
        unfold of_all
        rw [List.all_cons, show (l[y + t].f0 == 4) = false from beq_eq_false_iff_ne.mpr hf, Bool.false_and, Bool.and_false]
    · rw [if_pos (by omega), decide_eq_false (by omega), Bool.false_and]
theorem specFour_ok (l : List S25) (y : Nat) (hl : l.length ≤ 1000) (hy : y ≤ l.length) (k : Nat) (hk : 5 ≤ k) : spec_l6Four.f k l (y : Int) = some (of_hit l y 0) := specFour_l l y hl (by omega) 4 0 k rfl (by omega) (by omega)
theorem specPut_ok (l q : List S25) (y m : Nat) (h : y + m ≤ l.length) (hl : l.length ≤ 1000) (hq : q.length ≤ 1000) : spec_l6Put.f l (y : Int) (m : Int) q = some (l.take y ++ q ++ l.drop (y + m)) := by
  have h1 : (l.take y).length = y := by rw [List.length_take]; omega
  have h2 : (l.drop (y + m)).length ≤ 1000 := by rw [List.length_drop]; omega
  unfold spec_l6Put.f
  rw [Option.bind_some, if_pos (by omega), if_pos (by omega), Option.bind_some, Int.toNat_natCast, List.nil_append, if_pos (by rw [h1, List.length_nil]; omega), Option.bind_some, if_pos (by rw [h1]; omega), Option.bind_some, w64 (by omega) (by omega), if_pos (by omega), if_pos (by omega), Option.bind_some, show ((y : Int) + (m : Int)).toNat = y + m by omega, if_pos (by rw [List.length_append, h1]; omega)]
theorem pairR_len {a b : S25} {q : List S25} (h : pairR a b = some q) : q.length ≤ 1 := by
  unfold pairR at h
  split at h
  · split at h
    · rw [← Option.some.inj h]; exact Nat.zero_le _
    · split at h
      · rw [← Option.some.inj h]; exact Nat.le_refl _
      · split at h
        · rw [← Option.some.inj h]; exact Nat.le_refl _
        · cases h
  · cases h
def foldedR (l : List S25) (o : Option (List S25)) : List S25 × Bool := match o with
  | some q => (q, true)
  | none => (l, false)
theorem from_succ (l : List S25) (d y : Nat) : of_from l (d + 1) y = (atR l y).orElse fun _ => of_from l d (y + 1) := by
  show (of_at l y 7 0).orElse _ = _
  rw [at_ok]
theorem specFold_l (l : List S25) (hl : l.length ≤ 1000) : ∀ (d y k : Nat), y + d = l.length → d + 10 < k → spec_l6Fold.l0 k l (y : Int) = some (foldedR l (of_from l d y)) := by
  intro d
  induction d with
  | zero =>
    intro y k hy hk
    obtain ⟨k, rfl⟩ : ∃ m, k = m + 1 := ⟨k - 1, by omega⟩
    simp only [spec_l6Fold.l0]
    rw [if_neg (by omega)]; rfl
  | succ d ih =>
    intro y k hy hk
    obtain ⟨k, rfl⟩ : ∃ m, k = m + 1 := ⟨k - 1, by omega⟩
    have e := ih (y + 1) k (by omega) (by omega)
    rw [Int.natCast_add] at e
    simp only [spec_l6Fold.l0]
    rw [if_pos (by omega), specFour_ok l y hl (by omega) k (by omega), Option.bind_some, from_succ]
    unfold atR
    by_cases hf : of_hit l y 0 = true
    · have h4 : y + 4 ≤ l.length := by
        unfold of_hit at hf
        rw [Bool.and_eq_true, decide_eq_true_eq] at hf
        exact hf.1
      have ep := specPut_ok l [] y 4 h4 hl (Nat.zero_le _)
      rw [if_pos hf, if_pos hf]
      rw [show ((4 : Nat) : Int) = 4 from rfl] at ep
      rw [ep]; rfl
    · rw [if_neg hf, if_neg hf, w64 (by omega) (by omega)]
      by_cases h2 : y + 2 ≤ l.length
      · rw [if_pos (by omega), if_pos (by omega), if_pos (by omega), dif_pos h2, rdO (show y < l.length by omega), show (y : Int) + 1 = ((y + 1 : Nat) : Int) by omega, rdO (show y + 1 < l.length by omega), specPair_ok _ _ k (by omega), Option.bind_some]
        cases hp : pairR l[y] l[y + 1] with
        | none =>
          rw [show foundR none = ([], false) from rfl, if_neg (by simp)]
          rw [show (y : Int) + ((1 : Nat) : Int) = ((y + 1 : Nat) : Int) by omega] at e
          exact e
        | some q =>
          have hq := pairR_len hp
          have ep := specPut_ok l q y 2 h2 hl (by omega)
          rw [show ((2 : Nat) : Int) = 2 from rfl] at ep
          rw [show foundR (some q) = (q, true) from rfl, if_pos rfl, ep]; rfl
      · rw [if_neg (by omega), dif_neg h2]
        exact e
theorem specFold_ok (l : List S25) (hl : l.length ≤ 1000) (k : Nat) (hk : l.length + 10 < k) : spec_l6Fold.f k l = some (foldedR l (of_once l)) := specFold_l l hl l.length 0 k (Nat.zero_add _) hk
theorem loop_succ (d : Nat) (l : List S25) : of_loop (d + 1) l = match of_once l with | none => l | some r => of_loop d r := rfl
theorem specLoop_ok : ∀ (d : Nat) (l : List S25) (k : Nat), l.length < d → l.length ≤ 5 → d + 20 < k → spec_OpsFold.l0 k l true = some (of_loop d l) := by
  intro d
  induction d with
  | zero => intro l k h; omega
  | succ d ih =>
    intro l k hd hl hk
    obtain ⟨k, rfl⟩ : ∃ m, k = m + 1 := ⟨k - 1, by omega⟩
    simp only [spec_OpsFold.l0]
    rw [if_pos trivial, specFold_ok l (by omega) k (by omega), Option.bind_some, loop_succ]
    cases ho : of_once l with
    | none =>
      show spec_OpsFold.l0 k l false = some l
      obtain ⟨k, rfl⟩ : ∃ m, k = m + 1 := ⟨k - 1, by omega⟩
      simp only [spec_OpsFold.l0]
      rw [if_neg (by decide)]
    | some r =>
      have := of_once_lt ho
      exact ih r k (by omega) (by omega) (by omega)
/-- What a list is folded to. -/
def foldR (l : List S25) : List S25 := if AllO l then of_loop (l.length + 1) l else []
theorem specOpsFold_ok (l : List S25) (hl : l.length ≤ 1099511627776) (k : Nat) (hk : l.length + 100 ≤ k) : spec_OpsFold.f k l = some (foldR l) := by
  unfold spec_OpsFold.f foldR
  rw [specAll_ok l hl k (by omega), Option.bind_some]
  by_cases h : AllO l
  · have := h.1
    rw [if_pos (decide_eq_true h), if_pos h, Option.bind_some, if_pos (by rw [List.length_nil]; omega), List.nil_append]
    exact specLoop_ok (l.length + 1) l k (by omega) h.1 (by omega)
  · rw [if_neg (show ¬ decide (AllO l) = true from fun g => h (of_decide_eq_true g)), if_neg h]
theorem implOpsFold_ok (l : List S25) (hl : l.length ≤ 1099511627776) (k : Nat) (hk : 10 ≤ k) : impl_OpsFold.f k l = some (foldR l) := by
  unfold impl_OpsFold.f foldR
  rw [implOpsOk_ok l hl k hk, Option.bind_some]
  by_cases h : AllO l
  · rw [if_pos (decide_eq_true h), if_pos h]
  · rw [if_neg (show ¬ decide (AllO l) = true from fun g => h (of_decide_eq_true g)), if_neg h]
theorem loop_len : ∀ (d : Nat) (l : List S25), (of_loop d l).length ≤ l.length := by
  intro d
  induction d with
  | zero => intro l; exact Nat.le_refl _
  | succ d ih =>
    intro l
    rw [loop_succ]
    cases ho : of_once l with
    | none => exact Nat.le_refl _
    | some r => exact Nat.le_trans (ih r) (Nat.le_of_lt (of_once_lt ho))
theorem foldR_len (l : List S25) : (foldR l).length ≤ 5 := by
  unfold foldR
  split
  · rename_i h
    exact Nat.le_trans (loop_len _ _) h.1
  · exact Nat.zero_le _
theorem loop_end : ∀ (d : Nat) (l : List S25), l.length < d → of_once (of_loop d l) = none := by
  intro d
  induction d with
  | zero => intro l h; omega
  | succ d ih =>
    intro l h
    rw [loop_succ]
    cases ho : of_once l with
    | none => exact ho
    | some r =>
      have := of_once_lt ho
      exact ih r (by omega)
theorem loop_none {l : List S25} (h : of_once l = none) (d : Nat) : of_loop (d + 1) l = l := by rw [loop_succ, h]
/-- What is found at a place is of that list's operations, or one that is joined of two. -/
theorem pairR_good {a b : S25} {q : List S25} (h : pairR a b = some q) (ha : GoodO a) (hb : GoodO b) : ∀ o ∈ q, GoodO o := by
  unfold pairR at h
  split at h
  · split at h
    · rw [← Option.some.inj h]; intro o ho; cases ho
    · split at h
      · rw [← Option.some.inj h]; intro o ho; rw [List.mem_singleton] at ho; rw [ho]; exact ha
      · split at h
        · rename_i hk _ _ hc
          rw [← Option.some.inj h]; intro o ho; rw [List.mem_singleton] at ho; rw [ho]
          obtain ⟨c1, c2, c3, c4, c5⟩ := hc
          unfold GoodO OpP at ha hb ⊢
          dsimp only
          have A : (0 ≤ a.f1 ∧ a.f1 ≤ 5) ∧ (0 ≤ a.f2 ∧ a.f2 ≤ 5) := by omega
          have B : (0 ≤ b.f1 ∧ b.f1 ≤ 5) ∧ (0 ≤ b.f2 ∧ b.f2 ≤ 5) ∧ (1 ≤ b.f3 ∧ b.f3 ≤ 6) ∧ (1 ≤ b.f4 ∧ b.f4 ≤ 6) := by omega
          rw [w64 (x := a.f1 + b.f1) (by omega) (by omega)] at c4 ⊢
          rw [w64 (x := a.f2 + b.f2) (by omega) (by omega)] at c5 ⊢
          omega
        · cases h
  · cases h
theorem atR_good {l r : List S25} {y : Nat} (h : atR l y = some r) (hg : ∀ o ∈ l, GoodO o) : ∀ o ∈ r, GoodO o := by
  unfold atR at h
  split at h
  · rw [← Option.some.inj h]
    intro o ho
    rw [List.append_nil] at ho
    rcases List.mem_append.1 ho with ho | ho
    · exact hg o (List.mem_of_mem_take ho)
    · exact hg o (List.mem_of_mem_drop ho)
  · split at h
    · rename_i _ hy
      obtain ⟨q, hq, rfl⟩ := Option.map_eq_some_iff.1 h
      intro o ho
      rcases List.mem_append.1 ho with ho | ho
      · rcases List.mem_append.1 ho with ho | ho
        · exact hg o (List.mem_of_mem_take ho)
        · exact pairR_good hq (hg _ (List.getElem_mem _)) (hg _ (List.getElem_mem _)) o ho
      · exact hg o (List.mem_of_mem_drop ho)
    · cases h
theorem from_good {l r : List S25} (hg : ∀ o ∈ l, GoodO o) : ∀ (d y : Nat), of_from l d y = some r → ∀ o ∈ r, GoodO o := by
  intro d
  induction d with
  | zero => intro y h; cases h
  | succ d ih =>
    intro y h
    rw [from_succ] at h
    cases ha : atR l y with
    | none => rw [ha] at h; exact ih _ h
    | some q => rw [ha] at h; rw [← Option.some.inj h]; exact atR_good ha hg
theorem loop_good : ∀ (d : Nat) (l : List S25), (∀ o ∈ l, GoodO o) → ∀ o ∈ of_loop d l, GoodO o := by
  intro d
  induction d with
  | zero => intro l h; exact h
  | succ d ih =>
    intro l h
    rw [loop_succ]
    cases ho : of_once l with
    | none => exact h
    | some r => exact ih r (from_good h _ _ ho)
theorem foldR_all {l : List S25} (h : AllO l) : AllO (foldR l) := by
  refine ⟨foldR_len l, ?_⟩
  unfold foldR
  rw [if_pos h]
  exact loop_good _ _ h.2
theorem foldR_le {l : List S25} (h : AllO l) : (foldR l).length ≤ l.length := by
  unfold foldR
  rw [if_pos h]
  exact loop_len _ _
theorem foldR_keep {l : List S25} (h : AllO l) (ho : of_once l = none) : foldR l = l := by
  unfold foldR
  rw [if_pos h, loop_none ho]
theorem foldR_twice {l : List S25} (h : AllO l) : foldR (foldR l) = foldR l := by
  refine foldR_keep (foldR_all h) ?_
  unfold foldR
  rw [if_pos h]
  exact loop_end _ _ (by omega)
theorem eaOps_l (l : List S25) (hl : l.length ≤ 1000000) : ∀ (d i k : Nat), i + d = l.length → d < k → laws_eaOps.l0 k l l (i : Int) = some true := by
  intro d
  induction d with
  | zero =>
    intro i k hi hk
    obtain ⟨k, rfl⟩ : ∃ m, k = m + 1 := ⟨k - 1, by omega⟩
    simp only [laws_eaOps.l0]
    rw [if_neg (by omega)]
  | succ d ih =>
    intro i k hi hk
    obtain ⟨k, rfl⟩ : ∃ m, k = m + 1 := ⟨k - 1, by omega⟩
    simp only [laws_eaOps.l0]
    rw [if_pos (by omega), if_pos (by omega), if_pos (by omega), if_neg (by simp), w64 (by omega) (by omega)]
    exact ih (i + 1) k (by omega) (by omega)
theorem eaOps_self (l : List S25) (hl : l.length ≤ 1000000) (k : Nat) (hk : l.length < k) : laws_eaOps.f k l l = some true := by
  unfold laws_eaOps.f
  rw [if_pos rfl]
  exact eaOps_l l hl l.length 0 k (Nat.zero_add _) hk
end Go.Proofs.Ytjkaalcocgioaaa.Pl
