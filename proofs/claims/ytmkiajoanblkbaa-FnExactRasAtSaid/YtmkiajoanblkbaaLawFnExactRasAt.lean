/- The given statement FnExactRasAtSaid: the law answers true for every input, out of its pure statement and the walk of the program. No condition. -/
import Derived.Test.YtmkiajoanblkbaaRows
import Derived.Test.YtmkiajoanblkbaaX57
import Derived.Test.YtmkiajoanblkbaaPureFnExactRasAt
import Derived.Test.YtmkiajoanblkbaaOpen
import Derived.Test.YtmkiajoanblkbaaWSized
import Derived.WalkKit
import Derived.ProofKit
import Derived.OpenShut
import Derived.ShutString
import Derived.ChangeOld
import Derived.Below
import Derived.SizedLaws
import Derived.Lib.SmallJoins
namespace Go.Proofs.Ytmkiajoanblkbaa.fnExactRasAt
open Go.ChangeShapes Go.WideShapes Go.ChangeAt Go.RowKit
open Go.ChangeMaps (open_string shut_string)
set_option linter.unusedVariables false
theorem own : ownKnob Try.prog.godebug = none := by kernel_rfl
theorem laidOut : laidOutB Try.prog = true := by kernel_rfl
set_option maxRecDepth 100000 in
theorem lifted (os : Os) (started : os.Started) (H : Type) (enc : TypeId × Value → H) :
  ReturnsInHanded {} Try.checked os 9 .any (Rows.fnExactRasAtSpec.pre6 enc Try.prog Try.f9 Rows.fnExactRasAtRow.domain false) (Rows.fnExactRasAtSpec.post enc Try.prog Try.f9 false true false false) := by
 refine returnsInHanded_of_change_sized (C := Try.checked) own started (by kernel_rfl) Try.func9
  (ChangeSpec.witness6 (enc := enc) (C := Try.checked) false ⟨#[], #[.agg #[.int .i64 0, .int .i64 0, .slice none 0 0], .int .i64 0, .int .i64 0], []⟩ 8 (by kernel_rfl) (by kernel_rfl) (by kernel_rfl) (by kernel_rfl)) ?_
 intro W base args ds gs before hval0 hW hcnd hsz0 _
 have hsz : (DataW.weightsEach Try.prog (Try.f9.params.toList ++ Rows.fnExactRasAtSpec.plain.varTypes Try.prog) (ds ++ gs)).all (· ≤ reachBytes) = true := hsz0
 have hval : ∀ (j : Nat) t v, Try.f9.params[j]? = some t → args[j]? = some v → Value.okWide Try.prog W .any base t v := hval0
 have hW' := hW
 obtain ⟨p, q, hA0, hV, rfl, hfz, hnd⟩ := hW
 have hA : DataW.TrodAll enc Try.prog W 0 (fun _ => true) true Try.f9.params.toList args.toList ds p := hA0
 rw [Try.params9] at hA hval hsz
 obtain ⟨v0, vs0, d0, ds0, p0, q0, hargs, rfl, rfl, h0, r0⟩ := trodAll_cons hA
 obtain ⟨v1, vs1, d1, ds1, p1, q1, rfl, rfl, rfl, h1, r1⟩ := trodAll_cons r0
 obtain ⟨v2, vs2, d2, ds2, p2, q2, rfl, rfl, rfl, h2, r2⟩ := trodAll_cons r1
 obtain ⟨rfl, rfl, rfl⟩ := trodAll_nil r2
 obtain rfl : args = #[v0, v1, v2] := by cases args; simp_all
 obtain ⟨rfl, rfl⟩ := trodVars_none hV
 have k0 := h0
 have lt0 : ∀ x ∈ p0, x.block < W.heap.size := by obtain ⟨m, hm⟩ := k0; exact DataW.trod_lt m _ _ _ hm
 obtain ⟨u0, u1, u2, y0, y1, y2, n_, ev0, _, _, g0, g1, g2⟩ := Go.Joins.open_agg3 Try.underlying45 (by kernel_rfl) (by kernel_rfl) (hval 0 45 v0 rfl rfl) h0
 obtain ⟨a0_0, e0, _, w0_0⟩ := DataW.trod_int Try.underlying3 g0
 obtain ⟨a0_1, e1, _, w1_0⟩ := DataW.trod_int Try.underlying3 g1
 obtain ⟨A0, len0, c0, e2⟩ := Go.Joins.slice_form Try.underlying43 g2
 simp only [List.cons.injEq, and_true] at e0 e1 e2
 subst e0 e1 e2
 subst ev0
 obtain ⟨zs0, hR0, hl0, hc0, hx0, hz0⟩ := Open.open_rows (k := .i64) Try.underlying43 Try.underlying84 (by kernel_rfl) (by kernel_rfl) (by simp [Try.underlying3]) g2
 let mk0 : List Int → X.S84 := fun z => ⟨z.getD 0 0, z.getD 1 0, z.getD 2 0, z.getD 3 0⟩
 have hC0 : Go.Proofs.YtmkiajoanblkbaaW.PrintWords.Kd.C X.k84 W A0 (zs0.map mk0).length (zs0.map mk0) := Open.rows_as (d := X.k84) (k := .i64) (n := 4) mk0 rfl (fun w z hz => by match z, hz with | [x0, x1, x2, x3], _ => exact X.k84_mk w _) (fun z h => (hz0 z h).1) hR0
 have hw0 : ∀ x ∈ zs0.map mk0, (Lit.int .i64 x.f0).wf = true ∧ (Lit.int .i64 x.f1).wf = true ∧ (Lit.int .i64 x.f2).wf = true ∧ (Lit.int .i64 x.f3).wf = true := by
  intro x hx
  obtain ⟨z, hz1, rfl⟩ := List.mem_map.1 hx
  obtain ⟨h1, h2⟩ := hz0 z hz1
  match z, h1, h2 with
  | [x0, x1, x2, x3], _, h2 => exact ⟨h2 x0 (by simp), h2 x1 (by simp), h2 x2 (by simp), h2 x3 (by simp)⟩
 have hm0 : (zs0.map mk0).length ≤ maxLen := by rw [List.length_map]; exact hx0
 obtain rfl : (zs0.map mk0).length = len0 := by rw [List.length_map]; exact hl0
 obtain ⟨a1, rfl, rfl, rfl, w1⟩ := open_int Try.underlying3 (hval 1 3 v1 rfl rfl) h1
 obtain ⟨a2, rfl, rfl, rfl, w2⟩ := open_int Try.underlying3 (hval 2 3 v2 rfl rfl) h2
 clear hA0 hval0 hsz0 hsz
 obtain ⟨k, hk⟩ := Pure.FnExactRasAt a0_0 a0_1 (zs0.map mk0) a1 a2 w0_0 w1_0 hm0 hw0 w1 w2
 refine (X.laws_FnExactRasAt.calls k a0_0 a0_1 _ _ (zs0.map mk0) a1 a2 true W hC0 hc0 hk).mono ?_
 rintro e W' ⟨rfl, hd⟩
 have bel : Below W.heap.size W W' := hd
 exact ⟨_, rfl, _, _, _, [], _, [], hW', trodAll_mk1 (shut_bool Try.underlying4 _), (trodAll_cons_mk (Below.trod laidOut (by kernel_rfl) (of_decide_eq_true (by kernel_rfl)) k0 bel lt0) (trodAll_cons_mk (shut_int Try.underlying3 w1) (trodAll_cons_mk (shut_int Try.underlying3 w2) trodAll_mk0))), rfl, bel.frame _, fun h => by cases h⟩
theorem over : Rows.fnExactRasAtRow.holds Try.pinned (OpenSpec.ofChange Rows.fnExactRasAtSpec) :=
 OpenClaim.holds_of_wide 9 Try.f9 rfl rfl rfl rfl rfl rfl rfl ⟨rfl, rfl, rfl, rfl, rfl⟩ rfl rfl rfl rfl rfl (by kernel_rfl) Try.func9 (by kernel_rfl)
  (of_decide_eq_true (by kernel_rfl)) (by unfold Func.isWrapper; first | (rw [if_pos (by decide +kernel)]; kernel_rfl) | (rw [if_neg (by decide +kernel)]; exact ⟨rfl, rfl⟩))
  (fun os started H enc _ => lifted os started H enc)
theorem proved : Rows.FnExactRasAtSaid := over
#print axioms proved
end Go.Proofs.Ytmkiajoanblkbaa.fnExactRasAt
namespace Go.Proofs.Ytmkiajoanblkbaa
/-- The row, under a short name, for the claim. -/
theorem fnExactRasAt_holds : Rows.FnExactRasAtSaid := fnExactRasAt.proved
end Go.Proofs.Ytmkiajoanblkbaa
