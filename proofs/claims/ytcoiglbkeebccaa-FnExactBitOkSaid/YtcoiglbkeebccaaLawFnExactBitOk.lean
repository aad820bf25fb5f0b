/- The given statement FnExactBitOkSaid: the law answers true for every input, out of its pure statement and the walk of the program. No condition. -/
import Derived.Test.YtcoiglbkeebccaaRows
import Derived.Test.YtcoiglbkeebccaaX2
import Derived.Test.YtcoiglbkeebccaaPureFnExactBitOk
import Derived.Test.YtcoiglbkeebccaaOpen
import Derived.Test.YtcoiglbkeebccaaWSized
import Derived.WalkKit
import Derived.ProofKit
import Derived.OpenShut
import Derived.ShutString
import Derived.ChangeOld
import Derived.Below
import Derived.SizedLaws
import Derived.Lib.SmallJoins
namespace Go.Proofs.Ytcoiglbkeebccaa.fnExactBitOk
open Go.ChangeShapes Go.WideShapes Go.ChangeAt Go.RowKit
open Go.ChangeMaps (open_string shut_string)
set_option linter.unusedVariables false
theorem own : ownKnob Try.prog.godebug = none := by kernel_rfl
theorem laidOut : laidOutB Try.prog = true := by kernel_rfl
set_option maxRecDepth 100000 in
theorem lifted (os : Os) (started : os.Started) (H : Type) (enc : TypeId × Value → H) :
    ReturnsInHanded {} Try.checked os 4 .any (Rows.fnExactBitOkSpec.pre6 enc Try.prog Try.f4 Rows.fnExactBitOkRow.domain false) (Rows.fnExactBitOkSpec.post enc Try.prog Try.f4 false true false false) := by
  refine returnsInHanded_of_change_sized (C := Try.checked) own started (by kernel_rfl) Try.func4
    (ChangeSpec.witness6 (enc := enc) (C := Try.checked) false ⟨#[], #[.agg #[.int .i64 0, .int .i64 0]], []⟩ 8 (by kernel_rfl) (by kernel_rfl) (by kernel_rfl) (by kernel_rfl)) ?_
  intro W base args ds gs before hval0 hW hcnd hsz0 _
  have hsz : (DataW.weightsEach Try.prog (Try.f4.params.toList ++ Rows.fnExactBitOkSpec.plain.varTypes Try.prog) (ds ++ gs)).all (· ≤ reachBytes) = true := hsz0
  have hval : ∀ (j : Nat) t v, Try.f4.params[j]? = some t → args[j]? = some v → Value.okWide Try.prog W .any base t v := hval0
  have hW' := hW
  obtain ⟨p, q, hA0, hV, rfl, hfz, hnd⟩ := hW
  have hA : DataW.TrodAll enc Try.prog W 0 (fun _ => true) true Try.f4.params.toList args.toList ds p := hA0
  rw [Try.params4] at hA hval hsz
  obtain ⟨v0, vs0, d0, ds0, p0, q0, hargs, rfl, rfl, h0, r0⟩ := trodAll_cons hA
  obtain ⟨rfl, rfl, rfl⟩ := trodAll_nil r0
  obtain rfl : args = #[v0] := by cases args; simp_all
  obtain ⟨rfl, rfl⟩ := trodVars_none hV
  have k0 := h0
  have lt0 : ∀ x ∈ p0, x.block < W.heap.size := by obtain ⟨m, hm⟩ := k0; exact DataW.trod_lt m _ _ _ hm
  obtain ⟨xs0, ev0, el0, ew0⟩ := Open.open_agg_ints (k := .i64) Try.underlying24 (by kernel_rfl) (by kernel_rfl) (by simp [Try.underlying3]) (hval 0 24 v0 rfl rfl) h0
  obtain ⟨a0_0, a0_1, rfl⟩ : ∃ a0_0 a0_1, xs0 = [a0_0, a0_1] := by
    match xs0, el0 with
    | [b0, b1], _ => exact ⟨b0, b1, rfl⟩
  simp only [List.map_cons, List.map_nil] at ev0
  subst ev0
  clear hA0 hval0 hsz0 hsz
  have hk := Pure.FnExactBitOk a0_0 a0_1 (ew0 a0_0 (by simp)) (ew0 a0_1 (by simp))
  refine (X.laws_FnExactBitOk.calls a0_0 a0_1 true W  hk).mono ?_
  rintro e W' ⟨rfl, hd⟩
  have bel : Below W.heap.size W W' := hd
  exact ⟨_, rfl, _, _, _, [], _, [], hW', trodAll_mk1 (shut_bool Try.underlying4 _), (trodAll_cons_mk (Below.trod laidOut (by kernel_rfl) (of_decide_eq_true (by kernel_rfl)) k0 bel lt0) trodAll_mk0), rfl, bel.frame _, fun h => by cases h⟩
theorem over : Rows.fnExactBitOkRow.holds Try.pinned (OpenSpec.ofChange Rows.fnExactBitOkSpec) :=
  OpenClaim.holds_of_wide 4 Try.f4 rfl rfl rfl rfl rfl rfl rfl ⟨rfl, rfl, rfl, rfl, rfl⟩ rfl rfl rfl rfl rfl (by kernel_rfl) Try.func4 (by kernel_rfl)
    (of_decide_eq_true (by kernel_rfl)) (by unfold Func.isWrapper; first | (rw [if_pos (by decide +kernel)]; kernel_rfl) | (rw [if_neg (by decide +kernel)]; exact ⟨rfl, rfl⟩))
    (fun os started H enc _ => lifted os started H enc)
theorem proved : Rows.FnExactBitOkSaid := over
#print axioms proved
end Go.Proofs.Ytcoiglbkeebccaa.fnExactBitOk
namespace Go.Proofs.Ytcoiglbkeebccaa
/-- The row, under a short name, for the claim. -/
theorem fnExactBitOk_holds : Rows.FnExactBitOkSaid := fnExactBitOk.proved
end Go.Proofs.Ytcoiglbkeebccaa
