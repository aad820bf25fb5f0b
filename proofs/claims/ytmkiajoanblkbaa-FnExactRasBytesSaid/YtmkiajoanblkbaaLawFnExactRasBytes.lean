/- The given statement FnExactRasBytesSaid: the law answers true for every input, out of its pure statement and the walk of the program. No condition. -/
import Derived.Test.YtmkiajoanblkbaaRows
import Derived.Test.YtmkiajoanblkbaaX64
import Derived.Test.YtmkiajoanblkbaaPureFnExactRasBytes
import Derived.Test.YtmkiajoanblkbaaOpen
import Derived.Test.YtmkiajoanblkbaaWSized
import Derived.WalkKit
import Derived.ProofKit
import Derived.OpenShut
import Derived.ShutString
import Derived.ChangeOld
import Derived.Below
import Derived.SizedLaws
import Derived.Lib.SmallJoins
namespace Go.Proofs.Ytmkiajoanblkbaa.fnExactRasBytes
open Go.ChangeShapes Go.WideShapes Go.ChangeAt Go.RowKit
open Go.ChangeMaps (open_string shut_string)
set_option linter.unusedVariables false
theorem own : ownKnob Try.prog.godebug = none := by kernel_rfl
theorem laidOut : laidOutB Try.prog = true := by kernel_rfl
set_option maxRecDepth 100000 in
theorem lifted (os : Os) (started : os.Started) (H : Type) (enc : TypeId × Value → H) :
  ReturnsInHanded {} Try.checked os 10 .any (Rows.fnExactRasBytesSpec.pre6 enc Try.prog Try.f10 Rows.fnExactRasBytesRow.domain false) (Rows.fnExactRasBytesSpec.post enc Try.prog Try.f10 false true false false) := by
 refine returnsInHanded_of_change_sized (C := Try.checked) own started (by kernel_rfl) Try.func10
  (ChangeSpec.witness6 (enc := enc) (C := Try.checked) false ⟨#[], #[.agg #[.int .i64 0, .int .i64 0, .slice none 0 0]], []⟩ 8 (by kernel_rfl) (by kernel_rfl) (by kernel_rfl) (by kernel_rfl)) ?_
 intro W base args ds gs before hval0 hW hcnd hsz0 _
 have hsz : (DataW.weightsEach Try.prog (Try.f10.params.toList ++ Rows.fnExactRasBytesSpec.plain.varTypes Try.prog) (ds ++ gs)).all (· ≤ reachBytes) = true := hsz0
 have hval : ∀ (j : Nat) t v, Try.f10.params[j]? = some t → args[j]? = some v → Value.okWide Try.prog W .any base t v := hval0
 have hW' := hW
 obtain ⟨p, q, hA0, hV, rfl, hfz, hnd⟩ := hW
 have hA : DataW.TrodAll enc Try.prog W 0 (fun _ => true) true Try.f10.params.toList args.toList ds p := hA0
 rw [Try.params10] at hA hval hsz
 obtain ⟨v0, vs0, d0, ds0, p0, q0, hargs, rfl, rfl, h0, r0⟩ := trodAll_cons hA
 obtain ⟨rfl, rfl, rfl⟩ := trodAll_nil r0
 obtain rfl : args = #[v0] := by cases args; simp_all
 obtain ⟨rfl, rfl⟩ := trodVars_none hV
 have k0 := h0
 have lt0 : ∀ x ∈ p0, x.block < W.heap.size := by obtain ⟨m, hm⟩ := k0; exact DataW.trod_lt m _ _ _ hm
 obtain ⟨u0, u1, u2, y0, y1, y2, n_, ev0, _, _, g0, g1, g2⟩ := Go.Joins.open_agg3 Try.underlying45 (by kernel_rfl) (by kernel_rfl) (hval 0 45 v0 rfl rfl) h0
 obtain ⟨a0_0, e0, _, w0_0⟩ := DataW.trod_int Try.underlying3 g0
 obtain ⟨a0_1, e1, _, w1_0⟩ := DataW.trod_int Try.underlying3 g1
 obtain ⟨A0, len0, c0, e2⟩ := Go.Joins.slice_form Try.underlying43 g2
 simp only [List.cons.injEq, and_true] at e0 e1 e2
 subst e0 e1 e2
 subst ev0
 obtain ⟨zs0, hR0, hl0, hc0, hx0, hz0⟩ := Open.open_rows (k := .i64) Try.underlying43 Try.underlying84 (by kernel_rfl) (by kernel_rfl) (by simp [Try.underlying3]) g2
 let mk0 : List Int → X.S84 := fun z => ⟨z.getD 0 0, z.getD 1 0, z.getD 2 0, z.getD 3 0⟩
 have hC0 : Go.Proofs.YtmkiajoanblkbaaW.PrintWords.Kd.C X.k84 W A0 (zs0.map mk0).length (zs0.map mk0) := Open.rows_as (d := X.k84) (k := .i64) (n := 4) mk0 rfl (fun w z hz => by match z, hz with | [x0, x1, x2, x3], _ => exact X.k84_mk w _) (fun z h => (hz0 z h).1) hR0
 have hw0 : ∀ x ∈ zs0.map mk0, (Lit.int .i64 x.f0).wf = true ∧ (Lit.int .i64 x.f1).wf = true ∧ (Lit.int .i64 x.f2).wf = true ∧ (Lit.int .i64 x.f3).wf = true := by
  intro x hx
  obtain ⟨z, hz1, rfl⟩ := List.mem_map.1 hx
  obtain ⟨h1, h2⟩ := hz0 z hz1
  match z, h1, h2 with
  | [x0, x1, x2, x3], _, h2 => exact ⟨h2 x0 (by simp), h2 x1 (by simp), h2 x2 (by simp), h2 x3 (by simp)⟩
 have hm0 : (zs0.map mk0).length ≤ maxLen := by rw [List.length_map]; exact hx0
 obtain rfl : (zs0.map mk0).length = len0 := by rw [List.length_map]; exact hl0
 clear hA0 hval0 hsz0 hsz
 obtain ⟨k, hk⟩ := Pure.FnExactRasBytes a0_0 a0_1 (zs0.map mk0) w0_0 w1_0 hm0 hw0
 refine (X.laws_FnExactRasBytes.calls k a0_0 a0_1 _ _ (zs0.map mk0) true W hC0 hc0 hk).mono ?_
 rintro e W' ⟨rfl, hd⟩
 have bel : Below W.heap.size W W' := hd
 exact ⟨_, rfl, _, _, _, [], _, [], hW', trodAll_mk1 (shut_bool Try.underlying4 _), (trodAll_cons_mk (Below.trod laidOut (by kernel_rfl) (of_decide_eq_true (by kernel_rfl)) k0 bel lt0) trodAll_mk0), rfl, bel.frame _, fun h => by cases h⟩
theorem over : Rows.fnExactRasBytesRow.holds Try.pinned (OpenSpec.ofChange Rows.fnExactRasBytesSpec) :=
 OpenClaim.holds_of_wide 10 Try.f10 rfl rfl rfl rfl rfl rfl rfl ⟨rfl, rfl, rfl, rfl, rfl⟩ rfl rfl rfl rfl rfl (by kernel_rfl) Try.func10 (by kernel_rfl)
  (of_decide_eq_true (by kernel_rfl)) (by unfold Func.isWrapper; first | (rw [if_pos (by decide +kernel)]; kernel_rfl) | (rw [if_neg (by decide +kernel)]; exact ⟨rfl, rfl⟩))
  (fun os started H enc _ => lifted os started H enc)
theorem proved : Rows.FnExactRasBytesSaid := over
#print axioms proved
end Go.Proofs.Ytmkiajoanblkbaa.fnExactRasBytes
namespace Go.Proofs.Ytmkiajoanblkbaa
/-- The row, under a short name, for the claim. -/
theorem fnExactRasBytes_holds : Rows.FnExactRasBytesSaid := fnExactRasBytes.proved
end Go.Proofs.Ytmkiajoanblkbaa
