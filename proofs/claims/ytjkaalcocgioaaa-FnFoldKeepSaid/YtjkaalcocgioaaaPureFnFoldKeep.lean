/- What is not twice stays: the pure statement of the law FnFoldKeep. No condition. -/
import Derived.Test.YtjkaalcocgioaaaPlDrawFold
import Derived.Test.YtjkaalcocgioaaaPlFold
import Derived.Test.YtjkaalcocgioaaaPlEaOk
import Derived.Test.YtjkaalcocgioaaaX0
import Derived.Test.YtjkaalcocgioaaaX14
import Derived.Test.YtjkaalcocgioaaaX33
namespace Go.Proofs.Ytjkaalcocgioaaa.Pure
open Go Go.RowKit Go.Proofs.Ytjkaalcocgioaaa.X Go.Proofs.Ytjkaalcocgioaaa.Pl Go.Proofs.YtjkaalcocgioaaaW.PrintWords Go.Proofs.YtjkaalcocgioaaaW.PrintLast Go.Proofs.YtjkaalcocgioaaaW.PrintMore
/-- No two of one kind side by side. -/
def Apart (l : List S25) : Prop := ∀ (y : Nat) (h : y + 1 < l.length), l[y].f0 ≠ l[y + 1].f0
theorem apart_at {l : List S25} (h : Apart l) (y : Nat) : atR l y = none := by
  unfold atR
  by_cases h2 : y + 2 ≤ l.length
  · have hne := h y (by omega)
    have h0 : of_hit l y 0 = false := by
      unfold of_hit
      by_cases h4 : y + 4 ≤ l.length
      · show (decide (y + 4 ≤ l.length) && of_all 4 (of_part l y 4)) = false
        rw [part_cons (show y < l.length by omega), part_cons (show y + 1 < l.length by omega), Bool.and_eq_false_iff]
        right
        unfold of_all
        rw [List.all_cons, List.all_cons]
        by_cases e : l[y].f0 = 4
        · rw [show (l[y + 1].f0 == 4) = false from beq_eq_false_iff_ne.mpr (fun g => hne (e.trans g.symm)), Bool.false_and, Bool.and_false]
        · rw [show (l[y].f0 == 4) = false from beq_eq_false_iff_ne.mpr e, Bool.false_and]
      · rw [decide_eq_false (show ¬ y + of_size 0 ≤ l.length from h4), Bool.false_and]
    rw [if_neg (by rw [h0]; decide), dif_pos h2]
    unfold pairR
    rw [if_neg hne]; rfl
  · rw [if_neg (by rw [hit_short h2]; decide), dif_neg h2]
theorem apart_from {l : List S25} (h : Apart l) : ∀ d y, of_from l d y = none := by
  intro d
  induction d with
  | zero => intro y; rfl
  | succ d ih => intro y; rw [from_succ, apart_at h]; exact ih _
theorem apart_snoc {l : List S25} {o : S25} (h : Apart l) (hl : l.length = 0 ∨ ∃ h : l.length - 1 < l.length, l[l.length - 1].f0 ≠ o.f0) : Apart (l ++ [o]) := by
  intro y hy
  rw [List.length_append, List.length_singleton] at hy
  by_cases hy2 : y + 1 < l.length
  · rw [List.getElem_append_left (by omega), List.getElem_append_left hy2]
    exact h y hy2
  · obtain ⟨g1, g2⟩ := hl.resolve_left (by omega)
    have e : y = l.length - 1 := by omega
    subst e
    rw [List.getElem_append_left g1, List.getElem_append_right (by omega)]
    simpa using g2
theorem keep_l (L : List S25) (hL : L.length ≤ 5) : ∀ (d i k : Nat) (x : List S25), i + d = L.length → (∀ o ∈ L.take i, GoodO o) → (∀ o ∈ x, GoodO o) → x.length ≤ i → Apart x → d + 200 < k → laws_FnFoldKeep.l0 k L x (i : Int) = some true := by
  intro d
  induction d with
  | zero =>
    intro i k x hi hg hx hxl ha hk
    obtain ⟨k, rfl⟩ : ∃ m, k = m + 1 := ⟨k - 1, by omega⟩
    rw [List.take_of_length_le (by omega)] at hg
    have hfx : foldR x = x := foldR_keep (And.intro (by omega) hx) (apart_from ha _ _)
    have h5 := foldR_len L
    simp only [laws_FnFoldKeep.l0]
    rw [if_neg (by omega), implOpsFold_ok x (by omega) k (by omega), Option.bind_some, hfx, eaOps_self x (by omega) k (by omega), Option.bind_some, if_pos rfl, implOpsFold_ok L (by omega) k (by omega), Option.bind_some, specOpsFold_ok L (by omega) k (by omega), Option.bind_some, eaOps_self _ (by omega) k (by omega), Option.bind_some, if_pos rfl, eaOk_ok, Option.bind_some]
  | succ d ih =>
    intro i k x hi hg hx hxl ha hk
    obtain ⟨k, rfl⟩ : ∃ m, k = m + 1 := ⟨k - 1, by omega⟩
    have hil : i < L.length := by omega
    simp only [laws_FnFoldKeep.l0]
    rw [if_pos (by omega), if_pos (by omega), rdO hil, specOpOk_ok, Option.bind_some]
    by_cases hp : GoodO L[i]
    · have hg' : ∀ o ∈ L.take (i + 1), GoodO o := fun o ho => by
        rw [List.take_succ_eq_append_getElem hil] at ho
        rcases List.mem_append.1 ho with ho | ho
        · exact hg o ho
        · rw [List.mem_singleton] at ho; rw [ho]; exact hp
      have hx' : ∀ o ∈ x ++ [L[i]], GoodO o := fun o ho => by
        rcases List.mem_append.1 ho with ho | ho
        · exact hx o ho
        · rw [List.mem_singleton] at ho; rw [ho]; exact hp
      have grow (h : x.length = 0 ∨ ∃ h : x.length - 1 < x.length, x[x.length - 1].f0 ≠ L[i].f0) : laws_FnFoldKeep.l0 k L (x ++ [L[i]]) ((i : Int) + 1) = some true := by
        have e := ih (i + 1) k (x ++ [L[i]]) (by omega) hg' hx' (by rw [List.length_append, List.length_singleton]; omega) (apart_snoc ha h) (by omega)
        rw [Int.natCast_add] at e
        exact e
      have stay : laws_FnFoldKeep.l0 k L x ((i : Int) + 1) = some true := by
        have e := ih (i + 1) k x (by omega) hg' hx (by omega) ha (by omega)
        rw [Int.natCast_add] at e
        exact e
      rw [if_pos (show decide (OpP L[i].f0 L[i].f1 L[i].f2 L[i].f3 L[i].f4) = true from decide_eq_true hp), w64 (x := (i : Int) + 1) (by omega) (by omega)]
      by_cases h0 : (x.length : Int) = 0
      · rw [if_pos h0, if_pos (by omega)]
        exact grow (Or.inl (by omega))
      · have hxl1 : x.length - 1 < x.length := by omega
        rw [if_neg h0, w64 (by omega) (by omega), if_pos (by omega), if_pos (by omega), show (x.length : Int) - 1 = ((x.length - 1 : Nat) : Int) by omega, rdO hxl1]
        by_cases he : x[x.length - 1].f0 = L[i].f0
        · rw [if_pos he]
          exact stay
        · rw [if_neg he, if_pos (by omega)]
          exact grow (Or.inr ⟨hxl1, he⟩)
    · rw [if_neg (show ¬ decide (OpP L[i].f0 L[i].f1 L[i].f2 L[i].f3 L[i].f4) = true from fun g => hp (of_decide_eq_true g)), eaOk_ok, Option.bind_some]
theorem FnFoldKeep : laws_FnFoldKeep.Pure := by
  intro l _ _ hb
  obtain ⟨k, hk⟩ : ∃ k : Nat, 1000 ≤ k := ⟨1000, by omega⟩
  refine ⟨k, ?_⟩
  unfold laws_FnFoldKeep.f
  by_cases h : (l.length : Int) > 1048576
  · rw [if_pos h]
  obtain ⟨L, hL, hl⟩ := drawFold_ok l (bytes_wf hb)
  rw [if_neg h, hL k (by omega), Option.bind_some]
  by_cases h5 : (L.length : Int) > 5
  · rw [if_pos h5, eaOk_ok, Option.bind_some]
  · rw [if_neg h5]
    exact keep_l L (by omega) L.length 0 k [] (Nat.zero_add _) (fun o ho => by cases ho) (fun o ho => by cases ho) (Nat.zero_le _) (fun y hy => by rw [List.length_nil] at hy; omega) (by omega)
end Go.Proofs.Ytjkaalcocgioaaa.Pure
