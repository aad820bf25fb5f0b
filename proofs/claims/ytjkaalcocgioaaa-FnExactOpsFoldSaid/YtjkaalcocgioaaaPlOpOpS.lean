/- What the law's own helpers on lists of operations come to: a copy is the same numbers, a list is equal to itself, marks can be laid. The list is no longer than the law takes. -/
import Derived.Test.YtjkaalcocgioaaaPl
import Derived.Test.YtjkaalcocgioaaaX0
import Derived.Test.YtjkaalcocgioaaaX36
import Derived.Test.YtjkaalcocgioaaaX37
import Derived.Test.YtjkaalcocgioaaaX38
import Derived.Test.YtjkaalcocgioaaaX39
import Derived.Test.YtjkaalcocgioaaaX40
import Derived.Test.YtjkaalcocgioaaaX41
namespace Go.Proofs.Ytjkaalcocgioaaa.Pl
open Go Go.RowKit Go.Proofs.Ytjkaalcocgioaaa.X Go.Proofs.YtjkaalcocgioaaaW.PrintWords Go.Proofs.YtjkaalcocgioaaaW.PrintLast Go.Proofs.YtjkaalcocgioaaaW.PrintMore
def cpOp (x : S53) : S25 := ⟨x.f0, x.f1, x.f2, x.f3, x.f4⟩
theorem rdL_ {xs : List S53} {i : Nat} (h : i < xs.length) : rd_T53 xs (i : Int) = xs[i] := by
  unfold rd_T53
  rw [Int.toNat_natCast, List.getD_eq_getElem?_getD, List.getElem?_eq_getElem h]; rfl
theorem toOpOpS_l (l : List S53) (hl : l.length ≤ 1048576) : ∀ (d k i : Nat), i + d = l.length → d < k →
    laws_toOpOpS.l0 k l ((l.map cpOp).take i ++ List.replicate (l.length - i) z25) (i : Int) = some (l.map cpOp) := by
  have hml : (l.map cpOp).length = l.length := List.length_map _
  intro d
  induction d with
  | zero =>
    intro k i hd hk
    obtain ⟨k, rfl⟩ : ∃ m, k = m + 1 := ⟨k - 1, by omega⟩
    obtain rfl : i = l.length := by omega
    simp only [laws_toOpOpS.l0]
    rw [if_neg (by omega), List.take_of_length_le (by omega), Nat.sub_self]; simp
  | succ d ih =>
    intro k i hd hk
    obtain ⟨k, rfl⟩ : ∃ m, k = m + 1 := ⟨k - 1, by omega⟩
    have hi : i < l.length := by omega
    simp only [laws_toOpOpS.l0]
    have hs := set_next (l.map cpOp) z25 i (by omega)
    simp only [List.length_map, List.getElem_map] at hs
    rw [if_pos (by omega), if_pos (by omega), rdL_ hi]
    unfold laws_toOpOp.f
    rw [Option.bind_some, if_pos (by rw [List.length_append, List.length_take, List.length_replicate]; omega), w64 (by omega) (by omega), Int.toNat_natCast]
    have e := ih k (i + 1) (by omega) (by omega)
    rw [← hs] at e
    exact e
theorem toOpOpS_ok (l : List S53) (hl : l.length ≤ 1048576) (k : Nat) (hk : l.length < k) : laws_toOpOpS.f k l = some (l.map cpOp) := by
  unfold laws_toOpOpS.f
  rw [if_pos (by omega), if_pos (by omega), Int.toNat_natCast]
  simpa using toOpOpS_l l hl l.length k 0 (by omega) hk
theorem rdO_ {xs : List S25} {i : Nat} (h : i < xs.length) : rd_T25 xs (i : Int) = xs[i] := by
  unfold rd_T25
  rw [Int.toNat_natCast, List.getD_eq_getElem?_getD, List.getElem?_eq_getElem h]; rfl
theorem eqOpOpS_l (l : List S25) (hl : l.length ≤ 1048576) : ∀ (d k i : Nat), i + d = l.length → d < k → laws_eqOpOpS.l0 k l l (i : Int) = some true := by
  intro d
  induction d with
  | zero =>
    intro k i hd hk
    obtain ⟨k, rfl⟩ : ∃ m, k = m + 1 := ⟨k - 1, by omega⟩
    simp only [laws_eqOpOpS.l0]
    rw [if_neg (by omega)]
  | succ d ih =>
    intro k i hd hk
    obtain ⟨k, rfl⟩ : ∃ m, k = m + 1 := ⟨k - 1, by omega⟩
    simp only [laws_eqOpOpS.l0]
    rw [if_pos (by omega), if_pos (by omega), if_pos (by omega), rdO_ (show i < l.length by omega)]
    unfold laws_eqOpOp.f
    rw [if_pos rfl, if_pos rfl, if_pos rfl, if_pos rfl, if_pos rfl, Option.bind_some, if_pos rfl, w64 (by omega) (by omega)]
    exact ih k (i + 1) (by omega) (by omega)
theorem eqOpOpS_self (l : List S25) (hl : l.length ≤ 1048576) (k : Nat) (hk : l.length < k) : laws_eqOpOpS.f k l l = some true := by
  unfold laws_eqOpOpS.f
  rw [if_pos rfl]
  exact eqOpOpS_l l hl l.length k 0 (by omega) hk
/-- Written place by place over what was there. -/
theorem set_over5 {α : Type} (l m : List α) (i : Nat) (hl : m.length = l.length) (h : i < m.length) : (m.take i ++ l.drop i).set i m[i] = m.take (i + 1) ++ l.drop (i + 1) := by
  have hi : (m.take i).length = i := by rw [List.length_take]; omega
  rw [List.set_append_right _ _ (by omega), hi, Nat.sub_self, List.drop_eq_getElem_cons (show i < l.length by omega), List.set_cons_zero, take_snoc m i h, List.append_assoc]; rfl
/-- The marks of so many operations. -/
def marks5 (n : Nat) : List S25 := (List.range n).map fun (i : Nat) => ⟨1 + 5 * (i : Int), 1 + 5 * (i : Int) + 1, 1 + 5 * (i : Int) + 2, 1 + 5 * (i : Int) + 3, 1 + 5 * (i : Int) + 4⟩
theorem marks5_len (n : Nat) : (marks5 n).length = n := by simp [marks5]
theorem marks5_get (n i : Nat) (h : i < (marks5 n).length) : (marks5 n)[i] = ⟨1 + 5 * (i : Int), 1 + 5 * (i : Int) + 1, 1 + 5 * (i : Int) + 2, 1 + 5 * (i : Int) + 3, 1 + 5 * (i : Int) + 4⟩ := by simp [marks5]
theorem rd_set5 {x : List S25} {i : Nat} (h : i < x.length) (v : S25) : rd_T25 (x.set i v) (i : Int) = v := by
  rw [rdO_ (show i < (x.set i v).length by rw [List.length_set]; exact h), List.getElem_set_self]
theorem five64 {x : Int} (h0 : 0 ≤ x) (h1 : x ≤ 1000000000) : wrap64 (x + 1) = x + 1 ∧ wrap64 (x + 1 + 1) = x + 2 ∧ wrap64 (x + 2 + 1) = x + 3 ∧ wrap64 (x + 3 + 1) = x + 4 ∧ wrap64 (x + 4 + 1) = x + 5 :=
  ⟨w64 (by omega) (by omega), by rw [w64 (by omega) (by omega)]; omega, by rw [w64 (by omega) (by omega)]; omega, by rw [w64 (by omega) (by omega)]; omega, by rw [w64 (by omega) (by omega)]; omega⟩
theorem markOpOpS_l (l : List S25) (hl : l.length ≤ 2000000) : ∀ (d k i : Nat), i + d = l.length → d < k →
    laws_markOpOpS.l0 k ((marks5 l.length).take i ++ l.drop i) (1 + 5 * (i : Int)) (i : Int) = some (1 + 5 * (l.length : Int), marks5 l.length) := by
  intro d
  induction d with
  | zero =>
    intro k i hi hk
    obtain ⟨k, rfl⟩ : ∃ m, k = m + 1 := ⟨k - 1, by omega⟩
    obtain rfl : i = l.length := by omega
    have e : (marks5 l.length).take l.length ++ l.drop l.length = marks5 l.length := by
      rw [List.drop_length, List.append_nil, List.take_of_length_le (by rw [marks5_len]; exact Nat.le_refl _)]
    rw [e]
    simp only [laws_markOpOpS.l0]
    rw [if_neg (by rw [marks5_len]; exact Int.lt_irrefl _)]
  | succ d ih =>
    intro k i hi hk
    obtain ⟨k, rfl⟩ : ∃ m, k = m + 1 := ⟨k - 1, by omega⟩
    have hn := ih k (i + 1) (by omega) (by omega)
    have hm : i < (marks5 l.length).length := by rw [marks5_len]; omega
    have hx : ((marks5 l.length).take i ++ l.drop i).length = l.length := by
      rw [List.length_append, List.length_take, List.length_drop, marks5_len]; omega
    have hxi : i < ((marks5 l.length).take i ++ l.drop i).length := by rw [hx]; omega
    have f1 : (i : Int) < (((marks5 l.length).take i ++ l.drop i).length : Int) := Int.ofNat_lt.2 hxi
    have so := set_over5 l (marks5 l.length) i (marks5_len _) hm
    rw [marks5_get _ _ hm] at so
    obtain ⟨a1, a2, a3, a4, a0⟩ := five64 (x := 1 + 5 * (i : Int)) (by omega) (by omega)
    have a5 : wrap64 ((i : Int) + 1) = ((i + 1 : Nat) : Int) := by
      clear a1 a2 a3 a4 a0
      rw [w64 (by omega) (by omega)]; omega
    have a6 : 1 + 5 * (i : Int) + 5 = 1 + 5 * ((i + 1 : Nat) : Int) := by
      clear a1 a2 a3 a4 a5 a0
      omega
    simp only [laws_markOpOpS.l0]
    rw [if_pos f1, if_pos (Int.natCast_nonneg i), Int.toNat_natCast, Option.bind_some, rd_set5 hxi, List.set_set, Option.bind_some, rd_set5 hxi, List.set_set, Option.bind_some, rd_set5 hxi, List.set_set, Option.bind_some, rd_set5 hxi, List.set_set, a1, a2, a3, a4, a0, a5, so, a6]
    exact hn
theorem markOpOpS_ok (l : List S25) (hl : l.length ≤ 2000000) (k : Nat) (hk : l.length < k) : laws_markOpOpS.f k l 1 = some (1 + 5 * (l.length : Int), marks5 l.length) := by
  have e := markOpOpS_l l hl l.length k 0 (by omega) hk
  rw [show (1 : Int) + 5 * ((0 : Nat) : Int) = 1 from rfl, show ((0 : Nat) : Int) = 0 from rfl, List.take_zero, List.drop_zero, List.nil_append] at e
  exact e
theorem heldOpOpS_l (n : Nat) (hn : n ≤ 2000000) : ∀ (d k i : Nat), i + d = n → d < k → laws_heldOpOpS.l0 k (marks5 n) (1 + 5 * (i : Int)) (i : Int) = some (1 + 5 * (n : Int)) := by
  have hm := marks5_len n
  intro d
  induction d with
  | zero =>
    intro k i hd hk
    obtain ⟨k, rfl⟩ : ∃ m, k = m + 1 := ⟨k - 1, by omega⟩
    obtain rfl : i = n := by omega
    simp only [laws_heldOpOpS.l0]
    rw [if_neg (by omega)]
  | succ d ih =>
    intro k i hd hk
    obtain ⟨k, rfl⟩ : ∃ m, k = m + 1 := ⟨k - 1, by omega⟩
    have hn' := ih k (i + 1) (by omega) (by omega)
    obtain ⟨a1, a2, a3, a4, a0⟩ := five64 (x := 1 + 5 * (i : Int)) (by omega) (by omega)
    have a5 : wrap64 ((i : Int) + 1) = ((i + 1 : Nat) : Int) := by
      clear a1 a2 a3 a4 a0
      rw [w64 (by omega) (by omega)]; omega
    have a6 : 1 + 5 * (i : Int) + 5 = 1 + 5 * ((i + 1 : Nat) : Int) := by
      clear a1 a2 a3 a4 a5 a0
      omega
    simp only [laws_heldOpOpS.l0]
    rw [if_pos (by clear a1 a2 a3 a4 a0 a5; omega), if_pos (Int.natCast_nonneg i), rdO_ (show i < (marks5 n).length by rw [hm]; clear a1 a2 a3 a4 a0 a5; omega), marks5_get n i (by rw [hm]; clear a1 a2 a3 a4 a0 a5; omega), a1, a2, a3, a4, a0, if_pos rfl, if_pos rfl, if_pos rfl, if_pos rfl, if_pos rfl, a5, a6]
    exact hn'
theorem heldOpOpS_ok (n : Nat) (hn : n ≤ 2000000) (k : Nat) (hk : n < k) : laws_heldOpOpS.f k (marks5 n) 1 = some (1 + 5 * (n : Int)) := heldOpOpS_l n hn n k 0 (by omega) hk
end Go.Proofs.Ytjkaalcocgioaaa.Pl
