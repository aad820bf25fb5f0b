/- What functions of the program come to, each with its proof. No condition but what each theorem states. -/
import Derived.Test.YtfnkaccncmjnaaaX0
import Derived.Test.YtfnkaccncmjnaaaX27
namespace Go.Proofs.Ytfnkaccncmjnaaa.X
open Go.RowKit Go.Proofs.YtfnkaccncmjnaaaW.PrintWords Go.Proofs.YtfnkaccncmjnaaaW.PrintLast Go.Proofs.YtfnkaccncmjnaaaW.PrintMore Go.Proofs.Ytfnkaccncmjnaaa.Hyb
attribute [local go_sem] max2_int min2_int max_two min_two max_three min_three max_four min_four
set_option linter.unusedVariables false
set_option linter.unusedSimpArgs false

/-! ### impl_BitGet: function 26 -/
def impl_BitGet.f (k : Nat) (l0 : List Int) (a1 : Int) (a2 : Int) : Option (Int × Bool) := (impl_bitReader_get.f k l0 a1 false a2).bind fun t => some (t.1, !t.2.2)
theorem impl_BitGet.mono : ∀ a0 a1 a2 k, LeO (impl_BitGet.f k a0 a1 a2) (impl_BitGet.f (k + 1) a0 a1 a2) := by
 intro a0 a1 a2 k
 unfold impl_BitGet.f
 exact LeO.bind (impl_bitReader_get.mono _ _ _ _ _) (fun _ => LeO.refl _)
set_option maxHeartbeats 8000000 in
set_option maxRecDepth 100000 in
theorem impl_BitGet.calls (k : Nat) (A0 : Option Addr) (c0 : Nat) (l0 : List Int) (a1 : Int) (a2 : Int) (r1 : Int) (r2 : Bool) (w : World) (hr0 : Kd.C (Kd.int .u8) w A0 l0.length l0) (aA : l0.length ≤ c0) (h : impl_BitGet.f k l0 a1 a2 = some (r1, r2)) :
  Calls Try.prog 26 #[.slice A0 l0.length c0, .int .i64 a1, .int .i64 a2] w fun e w' => e = .returned (.tuple #[.int .i64 r1, .bool r2]) ∧ Below w.heap.size w w' := by
 have aB := Aside0.mk hr0
 have aC := Aside0.mk aA
 clear hr0 aA
 unfold impl_BitGet.f at h
 obtain ⟨⟨q1, q2, q3⟩, hq, hh⟩ := Option.bind_eq_some_iff.mp h
 clear h
 simp only [Option.some.injEq, Prod.mk.injEq] at hh
 obtain ⟨rfl, rfl⟩ := hh
 have HQ := Aside0.mk hq
 clear hq
 go_enter Try.func26, Try.ntmps26
 go_wp2_with (go_at_call 45; refine (impl_bitReader_get.calls k w.heap.size l0 a1 false a2 q1 q2 q3 w _ ⟨A0, c0, by simpa using heap_alloc_new w _, Nat.le_refl _, aB.out⟩ (below_alloc (Below.refl _ _) _) HQ.out).mono ?_; rintro e w1 ⟨rfl, hi, hb, hk⟩; obtain ⟨A1, c1, hblk, hge, hrd⟩ := hi; have aD := cellS61_2 hblk; have HB := Aside0.mk hb; clear hb hk hrd hge hblk)
 go_quiet (fail)
 go_wp2
 go_ret2
 exact ⟨rfl, pw_below_drewN HB.out _⟩

end Go.Proofs.Ytfnkaccncmjnaaa.X
