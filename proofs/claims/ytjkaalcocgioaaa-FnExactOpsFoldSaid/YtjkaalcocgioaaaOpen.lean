/- How arguments that are structs of whole numbers, or slices of such, read as lists of whole numbers: for the rows of laws with such parameters. No condition. -/
import Derived.Test.YtjkaalcocgioaaaVWGuardInvWordsMore
import Derived.Deep.Fields
import Derived.ProofKit
import Derived.WalkKit
set_option linter.unusedVariables false
namespace Go.Proofs.Ytjkaalcocgioaaa.Open
open Go Go.ChangeShapes Go.WideShapes Go.Deep Go.RowKit Go.Proofs.YtjkaalcocgioaaaW.PrintWords

section
variable {H : Type} {enc : TypeId × Value → H} {P : Program} {w : World} {base : Nat} {spare : Nat → Bool} {held : Bool}
theorem list_ints {k : IntKind} : ∀ (cs : List Value), (∀ v ∈ cs, ∃ n, v = .int k n ∧ (Lit.int k n).wf = true) → ∃ xs : List Int, cs = xs.map (Value.int k) ∧ ∀ n ∈ xs, (Lit.int k n).wf = true
  | [], _ => ⟨[], rfl, fun n h => by cases h⟩
  | v :: cs, h => by
    obtain ⟨n, rfl, hn⟩ := h v (by simp)
    obtain ⟨xs, rfl, hx⟩ := list_ints cs (fun u hu => h u (by simp [hu]))
    exact ⟨n :: xs, rfl, fun m hm => by
      rcases List.mem_cons.1 hm with rfl | hm
      · exact hn
      · exact hx m hm⟩
/-- A struct's cells, all of whose fields are whole numbers of one kind. -/
theorem fields_ints {k : IntKind} {fs : Array Field} {t : TypeId} {fuel : Nat} {cs : List Value} {x : DataW H × List MemPlace} (hs : P.underlying t = some (.struct fs)) (hone : oneCellFields P fs = true) (hC : P.cellsOf t = fs.size)
    (hint : ∀ f ∈ fs.toList, P.underlying f.type = some (.int k)) (h : DataW.trod enc P w base spare held fuel t cs = some x) :
    ∃ xs : List Int, cs = xs.map (Value.int k) ∧ xs.length = fs.size ∧ ∀ n ∈ xs, (Lit.int k n).wf = true := by
  obtain ⟨ys, n, _, _, hlen, hyl, hf⟩ := DataW.trod_struct hs h
  obtain ⟨xs, hx, hw⟩ := list_ints (k := k) cs (fun v hv => by
    obtain ⟨j, hj, rfl⟩ := List.mem_iff_getElem.1 hv
    have hjs : j < fs.size := by omega
    obtain ⟨ho, hk⟩ := hone_of hone j fs[j] (Array.getElem?_eq_getElem hjs)
    have h1 := hf j fs[j] (Array.getElem?_eq_getElem hjs)
    have hone' : (cs.drop j).take 1 = [cs[j]] := by rw [List.drop_eq_getElem_cons hj]; rfl
    rw [ho, hk, hone'] at h1
    rw [List.getElem?_eq_getElem (by omega)] at h1
    obtain ⟨m, hm, _, hwf⟩ := DataW.trod_int (hint _ (by simp)) h1
    exact ⟨m, by simpa using hm, hwf⟩)
  exact ⟨xs, hx, by have := congrArg List.length hx; simp at this; omega, hw⟩
theorem open_agg_ints {k : IntKind} {r : Reach} {b0 : Nat} {t : TypeId} {fs : Array Field} {v : Value} {d : DataW H} {p : List MemPlace} (hs : P.underlying t = some (.struct fs)) (hone : oneCellFields P fs = true) (hC : P.cellsOf t = fs.size)
    (hint : ∀ f ∈ fs.toList, P.underlying f.type = some (.int k)) (hv : Value.okWide P w r b0 t v) (h : DataW.Trod enc P w base spare held t v d p) :
    ∃ xs : List Int, v = .agg (xs.map (Value.int k)).toArray ∧ xs.length = fs.size ∧ ∀ n ∈ xs, (Lit.int k n).wf = true := by
  obtain ⟨cs, rfl, hsz⟩ := okWide_struct hs hv
  obtain ⟨fuel, hf⟩ := h
  obtain ⟨xs, hx, hl, hw⟩ := fields_ints hs hone hC hint hf
  refine ⟨xs, ?_, hl, hw⟩
  have hx' : cs.toList = xs.map (Value.int k) := by simpa [Value.cells] using hx
  rw [← hx']
/-- A slice of such structs: its elements' numbers, one list an element. -/
theorem open_rows {k : IntKind} {fs : Array Field} {t e : TypeId} {A : Option Addr} {len cap : Nat} {fuel : Nat} {x : DataW H × List MemPlace} (ht : P.underlying t = some (.slice e)) (hs : P.underlying e = some (.struct fs)) (hone : oneCellFields P fs = true) (hC : P.cellsOf e = fs.size)
    (hint : ∀ f ∈ fs.toList, P.underlying f.type = some (.int k)) (h : DataW.trod enc P w base spare held fuel t [.slice A len cap] = some x) :
    ∃ zs : List (List Int), ReadsRow (fun (z : List Int) (c : List Value) => c = z.map (Value.int k)) fs.size w A zs.length zs ∧ zs.length = len ∧ len ≤ cap ∧ zs.length ≤ maxLen ∧ ∀ z ∈ zs, z.length = fs.size ∧ ∀ n ∈ z, (Lit.int k n).wf = true := by
  rcases open_slice ht h with ⟨hcs, _⟩ | ⟨a, l, c, m, n, D, Pl, hcs, _, hl, hm, hmm, _, hi⟩
  · simp only [List.cons.injEq, Value.slice.injEq, and_true] at hcs
    obtain ⟨rfl, rfl, rfl⟩ := hcs
    exact ⟨[], ⟨rfl, by simp, fun h => absurd h (by simp)⟩, rfl, Nat.le_refl _, by simp, fun z hz => by cases hz⟩
  · simp only [List.cons.injEq, Value.slice.injEq, and_true] at hcs
    obtain ⟨rfl, rfl, rfl⟩ := hcs
    have hlm : len ≤ m := by rw [hmm]; split <;> omega
    obtain ⟨Z, hZ⟩ := choose_lt (α := List Int) (n := len) (p := fun i z => w.cells? base (a.add (i * P.cellsOf e)) (P.cellsOf e) = some (z.map (Value.int k)) ∧ z.length = fs.size ∧ ∀ n ∈ z, (Lit.int k n).wf = true) (fun i him => by
      obtain ⟨cs', h1, h2⟩ := hi i (by omega)
      obtain ⟨xs, hx, hl2, hw2⟩ := fields_ints hs hone hC hint h2
      exact ⟨xs, by rw [h1, hx], hl2, hw2⟩)
    refine ⟨(List.range len).map Z, ⟨rfl, ?_, fun _ => ⟨a, rfl, fun j p hj => ?_⟩⟩, by simp, hl, by simp; omega, fun z hz => ?_⟩
    · simp only [maxLen] at hm; simp; omega
    · obtain ⟨hjl, hp⟩ := List.getElem?_eq_some_iff.1 hj
      have hjn : j < len := by simpa using hjl
      obtain ⟨h1, h2, h3⟩ := hZ j hjn
      have hpz : p = Z j := by rw [← hp]; simp
      subst hpz
      refine ⟨(Z j).map (Value.int k), by simp [h2], rfl, fun i u hu => ?_⟩
      obtain ⟨_, hcl, hat⟩ := World.cells?_some h1
      have hil : i < fs.size := by
        have := (List.getElem?_eq_some_iff.1 hu).1
        simpa [h2] using this
      have := hat i (by rw [hC]; exact hil)
      rw [hC, Go.Deep.add_add] at this
      rw [this, hu]
    · obtain ⟨j, hj, rfl⟩ := List.mem_map.1 hz
      obtain ⟨_, h2, h3⟩ := hZ j (by simpa using hj)
      exact ⟨h2, h3⟩
theorem open_rows_v {k : IntKind} {fs : Array Field} {t e : TypeId} {A : Option Addr} {len cap : Nat} {d : DataW H} {p : List MemPlace} (ht : P.underlying t = some (.slice e)) (hs : P.underlying e = some (.struct fs)) (hone : oneCellFields P fs = true) (hC : P.cellsOf e = fs.size)
    (hint : ∀ f ∈ fs.toList, P.underlying f.type = some (.int k)) (h : DataW.Trod enc P w base spare held t (.slice A len cap) d p) :
    ∃ zs : List (List Int), ReadsRow (fun (z : List Int) (c : List Value) => c = z.map (Value.int k)) fs.size w A zs.length zs ∧ zs.length = len ∧ len ≤ cap ∧ zs.length ≤ maxLen ∧ ∀ z ∈ zs, z.length = fs.size ∧ ∀ n ∈ z, (Lit.int k n).wf = true := by
  obtain ⟨fuel, hf⟩ := h
  exact open_rows ht hs hone hC hint (by simpa [Value.cells] using hf)
/-- The numbers of each element as an element. -/
theorem rows_as {α : Type} {d : Kd α} {k : IntKind} {n : Nat} (mk : List Int → α) (hsz : d.sz = n) (hK : ∀ w z, z.length = n → d.K w (mk z) (z.map (Value.int k))) {A : Option Addr} {zs : List (List Int)} (hl : ∀ z ∈ zs, z.length = n)
    (h : ReadsRow (fun (z : List Int) (c : List Value) => c = z.map (Value.int k)) n w A zs.length zs) : d.C w A (zs.map mk).length (zs.map mk) := by
  refine ⟨rfl, by rw [List.length_map]; exact h.2.1, fun hp => ?_⟩
  rw [List.length_map] at hp
  obtain ⟨ad, e, hc⟩ := h.2.2 hp
  refine ⟨ad, e, fun j p hj => ?_⟩
  rw [List.getElem?_map] at hj
  obtain ⟨z, hz, rfl⟩ := Option.map_eq_some_iff.1 hj
  obtain ⟨c, h1, h2, h3⟩ := hc j z hz
  have hzn := hl z (List.mem_of_getElem? hz)
  refine ⟨c, by rw [hsz]; exact h1, ?_, fun i u hu => by rw [hsz]; exact h3 i u hu⟩
  rw [h2]
  exact hK w z hzn
end
end Go.Proofs.Ytjkaalcocgioaaa.Open
