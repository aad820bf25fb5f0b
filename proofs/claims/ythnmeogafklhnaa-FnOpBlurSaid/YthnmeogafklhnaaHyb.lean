/- Small laws that the walks of this seat's texts use: a slice that is made with room for more than it has (make of length 0 with a capacity) is an empty row of the call's own. No condition. -/
import Derived.Test.YthnmeogafklhnaaVWords
set_option linter.unusedVariables false
namespace Go.Proofs.Ythnmeogafklhnaa.Hyb
open Go Go.RowKit Go.Proofs.YthnmeogafklhnaaW.PrintWords

section
variable {P : Program} {ops : Array Oper} {rest : List Oper} {o : Oper} {a : Act} {Q : Exit → Act → World → Prop}
variable {α : Type}
theorem R_makecap (d : Kd α) {w0 W : World} (base e : Nat) (hgd : o.guard = none) {N : Tmp} (hd : o.dst = some N) (t : TypeId) (x y : Operand) (ho : o.op = .makeSlice t x y) (n : Int) (hx : a.eval x = .int .i64 0) (hy : a.eval y = .int .i64 n)
    (ht : P.underlying t = some (.slice e)) (z : Value) (bytes : Nat) (hinfo : (P.info? e).map (fun i => (i.zero, i.size, i.bytes)) = some (some z, d.sz, bytes)) (hz : z.cells.size = d.sz) (hb0 : 0 < bytes)
    {ok : Nat → Prop} (hfresh : ok W.heap.size) (h0 : 0 ≤ n) (hl : n.toNat * bytes ≤ 281474976710656) (HB : Below base w0 W) (hbase : base ≤ W.heap.size)
    (h : ∀ v1 w1, d.R e w1 base ok v1 ([] : List α) → Below base w0 w1 → W.grownBy w1 none → (∃ b, v1.ownBlock = some b ∧ W.heap.size ≤ b) → wpList P ops Q rest (a.put o.dst v1) w1) : wpList P ops Q (o :: rest) a W := by
  obtain ⟨m, rfl⟩ := Int.eq_ofNat_of_zero_le h0
  simp only [Int.toNat_natCast] at hl
  obtain ⟨i0, hi, hzz⟩ := Option.map_eq_some_iff.1 hinfo
  simp only [Prod.mk.injEq] at hzz
  obtain ⟨hz0, hz1, hz2⟩ := hzz
  have hm : m ≤ 281474976710656 := Nat.le_trans (Nat.le_mul_of_pos_right _ hb0) hl
  have hr := run_make (P := P) W t e i0 z ht hi hz0 .i64 .i64 (0 : Int) (m : Int) (by omega) (by omega)
    (by
      have h3 : ((i0.bytes * m : Nat) : Int) ≤ 281474976710656 := by rw [hz2, Nat.mul_comm]; omega
      rwa [Int.natCast_mul] at h3) (by omega)
  simp only [Int.toNat_natCast, Int.toNat_zero] at hr
  rw [hz1] at hr
  have hown : (W.alloc (.cells (madeCells z.cells (m * d.sz)) e)).ownsRow base e d.sz (.slice (some ⟨W.heap.size, 0, none⟩) 0 m) 0 [] := by
    have h2 := World.ownsRow_lit (base := base) (e := e) (size := d.sz) W (madeCells z.cells (m * d.sz)) m hbase (by simp only [maxLen]; omega) (by simp [size_madeCells])
    simpa using own_take h2 (Nat.zero_le m)
  refine Kd.event_run hgd (v := .slice (some ⟨W.heap.size, 0, none⟩) 0 m) (w1 := W.alloc (.cells (madeCells z.cells (m * d.sz)) e)) ?_ (h _ _ ⟨fun k hk => ?_, [], hown, Reps.none _ _⟩ (HB.alloc hbase _) (World.grownBy_alloc W _ none) ⟨W.heap.size, by simp [Value.ownBlock], Nat.le_refl _⟩)
  · simp [execOp, ho, hx, hy, hr]
  · have : W.heap.size = k := by simpa [Value.ownBlock] using hk
    subst this
    exact hfresh
end
theorem C_cast {α : Type} {d : Kd α} {w : World} {A : Option Addr} {n m : Nat} {xs : List α} (e : n = m) (h : d.C w A n xs) : d.C w A m xs := e ▸ h
section
-- Closed proof blocks that the walks repeat, as laws with a proof by default.
theorem oK {P : Prop} (h : P := by kernel_rfl) : P := h
theorem oD {P : Prop} (h : P := by decide) : P := h
theorem oA {P : Prop} (h : P := by (try simp only [List.map_toArray, List.map_cons, List.map_nil]); first | done | rfl | (simp only [List.length_drop, List.length_take]; rfl)) : P := h
theorem oP {w V : World} {g : Nat} {o : Obj} (q : Aside0 (w.heap[g]? = some o)) (h : w.heap[g]? = some o → V.heap[g]? = some o := by intro q_; repeat (first | (with_reducible first | exact q_ | refine blk_drewN ?_ _ | refine blk_drew ?_ | refine blk_alloc ?_ _ | refine blk_far ?_ (Aside0.out (by assumption)) _) | exact q_)) : V.heap[g]? = some o := h q.out
theorem uR {P Q : Prop} (q : Q) (h : Q → P := by intro q_; (with_reducible repeat (first | apply Kd.R_alloc | apply Kd.R_drewN | apply Kd.R_drew)); exact q_) : P := h q
theorem uV {P Q : Prop} (q : Q) (h : Q → P := by intro q_; (with_reducible repeat (first | apply Kd.V_alloc | apply Kd.V_drewN | apply Kd.V_drew)); exact q_) : P := h q
theorem uQ {P Q : Prop} (q : Q) (h : Q → P := by intro q_; (with_reducible repeat (first | apply Kd.Q_alloc | apply Kd.Q_drewN | apply Kd.Q_drew)); exact q_) : P := h q
theorem uC {P Q : Prop} (q : Q) (h : Q → P := by intro q_; (with_reducible repeat (first | apply Kd.C_alloc | apply Kd.C_drewN | apply Kd.C_drew)); exact q_) : P := h q
theorem oR {P Q : Prop} (q : Aside0 Q) (h : Q → P := by intro q_; (with_reducible repeat (first | apply Kd.R_alloc | apply Kd.R_drewN | apply Kd.R_drew)); exact q_) : P := h q.out
theorem oV {P Q : Prop} (q : Aside0 Q) (h : Q → P := by intro q_; (with_reducible repeat (first | apply Kd.V_alloc | apply Kd.V_drewN | apply Kd.V_drew)); exact q_) : P := h q.out
theorem oQ {P Q : Prop} (q : Aside0 Q) (h : Q → P := by intro q_; (with_reducible repeat (first | apply Kd.Q_alloc | apply Kd.Q_drewN | apply Kd.Q_drew)); exact q_) : P := h q.out
theorem oC {P Q : Prop} (q : Aside0 Q) (h : Q → P := by intro q_; (with_reducible repeat (first | apply Kd.C_alloc | apply Kd.C_drewN | apply Kd.C_drew)); exact q_) : P := h q.out
theorem oB {n : Nat} {w W V : World} (q : Aside0 (Below n w W)) (h : Below n w W → Below n w V := by intro q_; repeat (first | (with_reducible first | exact q_ | apply below_alloc | apply pw_below_drewN | apply below_drew1 | refine below_set ?_ (Aside0.out (by assumption))) | exact q_)) : Below n w V := h q.out
theorem oH {G : Prop} {n : Nat} {w W V : World} (q : Aside0 (Below n w W)) (s : G) (h : G → Below n w W → Below n w V := by intro s_ q_; repeat (first | (with_reducible first | exact q_ | apply below_alloc | apply pw_below_drewN | apply below_drew1 | refine below_set ?_ s_ | refine below_set ?_ (Aside0.out (by assumption))) | exact q_)) : Below n w V := h s q.out
theorem oE {w W V : World} {g : Nat} {row : Option Nat} (q : Aside0 (KeepBut w W g row)) (h : KeepBut w W g row → KeepBut w V g row := by intro q_; repeat (first | (with_reducible first | exact q_ | apply KeepBut.set_ | apply keep_drewN | apply keep_drew | apply keep_alloc | refine keep_far ?_ (Aside0.out (by assumption)) _) | exact q_)) : KeepBut w V g row := h q.out
theorem oG {g n m : Nat} (e : g = n) (h : m ≤ n) : m ≤ g := e ▸ h
theorem oL {g b n : Nat} (e : b = n) (h : g < n) : g ≠ b := by omega
theorem oN {g b n : Nat} (e : b = n) (h : g < n) : b ≠ g := by omega
theorem oF {b : Bool} {P : Prop} (h : b = false) (h' : b = true) : P := absurd (h.symm.trans h') (by decide)
theorem oW {w : World} {p : Addr} {v : Value} {b n : Nat} (h : w.cell? p = some v) (k : Aside0 (w.heap.size ≤ n)) (e : p.block < w.heap.size → b < w.heap.size := by intro this; first | rwa [add_block] at this | exact this) : b < n := Nat.lt_of_lt_of_le (e (World.block_lt_of_cell? _ _ h)) k.out
theorem oJ {w0 w w1 : World} {g g' : Nat} {row : Option Nat} {o : Obj} (hk : KeepBut w w1 g row) (q : Aside0 (w0.heap[g']? = some o)) (n : Aside0 (g' ≠ g)) (hr : some g' ≠ row := by simp) (h : w0.heap[g']? = some o → w.heap[g']? = some o := by intro q_; repeat (first | (with_reducible first | exact q_ | refine blk_drewN ?_ _ | refine blk_drew ?_ | refine blk_alloc ?_ _ | refine blk_far ?_ (Aside0.out (by assumption)) _) | exact q_)) : w1.heap[g']? = some o := KeepBut.blk hk (h q.out) n.out hr
theorem oM {P : Prop} (h : P := by first | (with_reducible assumption) | assumption) : P := h
theorem oZ {P : Prop} (h : P := by first | exact Kd.R_nil _ _ _ _ _ | exact Kd.N_nil _ _ _ _ _ | exact Kd.V_nil _ _ _ _ _ | exact Kd.Q_nil _ _ _ _ _ | exact Kd.S_nil _ _ _ _ _) : P := h
theorem oX0 {P Q : Nat → Prop} (h : ∀ k, P k → Q k := by intro _ hk; first | exact hk | exact trivial | (revert hk; simp; done) | (simp_all; done)) : ∀ k, P k → Q k := h
theorem oX1 {P Q : Nat → Prop} (h : ∀ k, P k → Q k := by intro _ hk; first | exact hk.1 | exact trivial | (revert hk; simp; done) | (simp_all; done)) : ∀ k, P k → Q k := h
theorem oX2 {P Q : Nat → Prop} (h : ∀ k, P k → Q k := by intro _ hk; first | exact hk.2 | exact trivial | (revert hk; simp; done) | (simp_all; done)) : ∀ k, P k → Q k := h
theorem oS {P : Prop} (h : P := by first | (go_simp; done) | (go_simp; rfl)) : P := h
theorem oU {P : Prop} (h : P := by first | rfl | (simp; done) | (simp [*]; done)) : P := h
theorem oT {P : Prop} (h : P := by simp only [Act.put, List.setIfInBounds_toArray, List.set_cons_zero, List.set_cons_succ, i64_w, i32_w]; rfl) : P := h
theorem o1_ {P : Prop} (p : P) : Aside0 P := ⟨p⟩
theorem o2_ {P Q : Prop} (p : P) (q : Q) : Aside0 P ∧ Q := ⟨⟨p⟩, q⟩
end
end Go.Proofs.Ythnmeogafklhnaa.Hyb
