/- Plain facts on whole numbers and lists, for the pure statements of this seat: a wrapped number within the bounds of int is itself; what is read of a list; one round of a loop over a list. No condition. -/
import Derived.Test.YthnmeogafklhnaaVWGuardInvWordsMore
namespace Go.Proofs.Ythnmeogafklhnaa.Pl
open Go Go.RowKit Go.Proofs.YthnmeogafklhnaaW.PrintWords Go.Proofs.YthnmeogafklhnaaW.PrintLast Go.Proofs.YthnmeogafklhnaaW.PrintMore

theorem w64 {x : Int} (h0 : -9223372036854775808 ≤ x) (h1 : x ≤ 9223372036854775807) : wrap64 x = x := by unfold wrap64; omega
/-- A byte. -/
def Byte (x : Int) : Prop := 0 ≤ x ∧ x ≤ 255
def Bytes (l : List Int) : Prop := ∀ x ∈ l, Byte x
theorem byte_wf {x : Int} (h : (Lit.int .u8 x).wf = true) : Byte x := by
  simpa [Byte, Lit.wf, IntKind.min, IntKind.max, IntKind.signed, IntKind.bits] using h
theorem bytes_wf {l : List Int} (h : ∀ x ∈ l, (Lit.int .u8 x).wf = true) : Bytes l := fun x hx => byte_wf (h x hx)
theorem rd_nat (l : List Int) (i : Nat) : rd l (i : Int) = l.getD i 0 := by simp [rd]
theorem rd_lt {l : List Int} {i : Nat} (h : i < l.length) : rd l (i : Int) = l[i] := by
  rw [rd_nat, List.getD_eq_getElem?_getD, List.getElem?_eq_getElem h]; rfl
theorem rd_byte {l : List Int} (h : Bytes l) (i : Int) : Byte (rd l i) := by
  unfold rd
  rw [List.getD_eq_getElem?_getD]
  cases hx : l[i.toNat]? with
  | none => exact ⟨by simp, by simp⟩
  | some x => exact h x (List.mem_of_getElem? hx)
theorem bytes_nil : Bytes [] := fun _ h => by cases h
theorem bytes_snoc {l : List Int} {x : Int} (h : Bytes l) (hx : Byte x) : Bytes (l ++ [x]) := fun y hy => by
  rcases List.mem_append.1 hy with hy | hy
  · exact h y hy
  · rw [List.mem_singleton] at hy; subst hy; exact hx
theorem bytes_append {l m : List Int} (h : Bytes l) (hm : Bytes m) : Bytes (l ++ m) := fun y hy => by
  rcases List.mem_append.1 hy with hy | hy
  · exact h y hy
  · exact hm y hy
theorem bytes_take {l : List Int} (h : Bytes l) (n : Nat) : Bytes (l.take n) := fun y hy => h y (List.mem_of_mem_take hy)
theorem bytes_drop {l : List Int} (h : Bytes l) (n : Nat) : Bytes (l.drop n) := fun y hy => h y (List.mem_of_mem_drop hy)
theorem bytes_set {l : List Int} (h : Bytes l) (n : Nat) {x : Int} (hx : Byte x) : Bytes (l.set n x) := fun y hy => by
  rcases List.mem_or_eq_of_mem_set hy with hy | rfl
  · exact h y hy
  · exact hx
theorem bytes_rep (n : Nat) : Bytes (List.replicate n 0) := fun y hy => by
  rw [List.mem_replicate] at hy; obtain ⟨_, rfl⟩ := hy; exact ⟨by omega, by omega⟩
theorem byte_mod (x : Int) : Byte (x % 256) := ⟨Int.emod_nonneg _ (by decide), by have := Int.emod_lt_of_pos x (show (0 : Int) < 256 by decide); omega⟩
/-- Written place by place, from the left. -/
theorem set_next {α : Type} (l : List α) (z : α) (i : Nat) (h : i < l.length) :
    (l.take i ++ List.replicate (l.length - i) z).set i l[i] = l.take (i + 1) ++ List.replicate (l.length - (i + 1)) z := by
  apply List.ext_getElem?
  intro j
  have hl : (l.take i).length = i := by rw [List.length_take]; omega
  rw [List.getElem?_set]
  by_cases e : i = j
  · subst e
    rw [if_pos rfl]
    have h1 : i < (l.take i ++ List.replicate (l.length - i) z).length := by rw [List.length_append, hl, List.length_replicate]; omega
    rw [if_pos h1, List.getElem?_append_left (by rw [List.length_take]; omega), List.getElem?_take, if_pos (by omega), List.getElem?_eq_getElem h]
  · rw [if_neg e]
    rcases Nat.lt_or_ge j i with hj | hj
    · rw [List.getElem?_append_left (by omega), List.getElem?_append_left (by rw [List.length_take]; omega), List.getElem?_take, List.getElem?_take, if_pos hj, if_pos (by omega)]
    · rw [List.getElem?_append_right (by omega), List.getElem?_append_right (by rw [List.length_take]; omega), hl, List.getElem?_replicate, List.getElem?_replicate, List.length_take]
      by_cases hj2 : j < l.length
      · rw [if_pos (by omega), if_pos (by omega)]
      · rw [if_neg (by omega), if_neg (by omega)]
theorem take_snoc {α : Type} (l : List α) (i : Nat) (h : i < l.length) : l.take (i + 1) = l.take i ++ [l[i]] := by
  rw [List.take_succ_eq_append_getElem h]
theorem ev_up {α : Type} {g : Nat → Option α} (h : ∀ k, LeO (g k) (g (k + 1))) {k k' : Nat} (hk : k ≤ k') {r : α} (hr : g k = some r) : g k' = some r := at_rounds h hk hr
end Go.Proofs.Ythnmeogafklhnaa.Pl
