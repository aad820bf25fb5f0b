/- The given statement FnExactOpsFoldSaid: the law answers true for every input, out of its pure statement and the walk of the program. No condition. -/
import Derived.Test.YtjkaalcocgioaaaRows
import Derived.Test.YtjkaalcocgioaaaX42
import Derived.Test.YtjkaalcocgioaaaPureFnExactOpsFold
import Derived.Test.YtjkaalcocgioaaaOpen
import Derived.Test.YtjkaalcocgioaaaWSized
import Derived.WalkKit
import Derived.ProofKit
import Derived.OpenShut
import Derived.ShutString
import Derived.ChangeOld
import Derived.Below
import Derived.SizedLaws
import Derived.Lib.SmallJoins
namespace Go.Proofs.Ytjkaalcocgioaaa.fnExactOpsFold
open Go.ChangeShapes Go.WideShapes Go.ChangeAt Go.RowKit
open Go.ChangeMaps (open_string shut_string)
set_option linter.unusedVariables false
theorem own : ownKnob Try.prog.godebug = none := by kernel_rfl
theorem laidOut : laidOutB Try.prog = true := by kernel_rfl
set_option maxRecDepth 100000 in
theorem lifted (os : Os) (started : os.Started) (H : Type) (enc : TypeId × Value → H) :
  ReturnsInHanded {} Try.checked os 7 .any (Rows.fnExactOpsFoldSpec.pre6 enc Try.prog Try.f7 Rows.fnExactOpsFoldRow.domain false) (Rows.fnExactOpsFoldSpec.post enc Try.prog Try.f7 false true false false) := by
 refine returnsInHanded_of_change_sized (C := Try.checked) own started (by kernel_rfl) Try.func7
  (ChangeSpec.witness6 (enc := enc) (C := Try.checked) false ⟨#[], #[.slice none 0 0], []⟩ 8 (by kernel_rfl) (by kernel_rfl) (by kernel_rfl) (by kernel_rfl)) ?_
 intro W base args ds gs before hval0 hW hcnd hsz0 _
 have hsz : (DataW.weightsEach Try.prog (Try.f7.params.toList ++ Rows.fnExactOpsFoldSpec.plain.varTypes Try.prog) (ds ++ gs)).all (· ≤ reachBytes) = true := hsz0
 have hval : ∀ (j : Nat) t v, Try.f7.params[j]? = some t → args[j]? = some v → Value.okWide Try.prog W .any base t v := hval0
 have hW' := hW
 obtain ⟨p, q, hA0, hV, rfl, hfz, hnd⟩ := hW
 have hA : DataW.TrodAll enc Try.prog W 0 (fun _ => true) true Try.f7.params.toList args.toList ds p := hA0
 rw [Try.params7] at hA hval hsz
 obtain ⟨v0, vs0, d0, ds0, p0, q0, hargs, rfl, rfl, h0, r0⟩ := trodAll_cons hA
 obtain ⟨rfl, rfl, rfl⟩ := trodAll_nil r0
 obtain rfl : args = #[v0] := by cases args; simp_all
 obtain ⟨rfl, rfl⟩ := trodVars_none hV
 have k0 := h0
 have lt0 : ∀ x ∈ p0, x.block < W.heap.size := by obtain ⟨m, hm⟩ := k0; exact DataW.trod_lt m _ _ _ hm
 obtain ⟨A0, len0, c0, rfl⟩ := okWide_slice Try.underlying32 (hval 0 32 v0 rfl rfl)
 obtain ⟨zs0, hR0, hl0, hc0, hx0, hz0⟩ := Open.open_rows_v (k := .i64) Try.underlying32 Try.underlying53 (by kernel_rfl) (by kernel_rfl) (by simp [Try.underlying3]) h0
 let mk0 : List Int → X.S53 := fun z => ⟨z.getD 0 0, z.getD 1 0, z.getD 2 0, z.getD 3 0, z.getD 4 0⟩
 have hC0 : Go.Proofs.YtjkaalcocgioaaaW.PrintWords.Kd.C X.k53 W A0 (zs0.map mk0).length (zs0.map mk0) := Open.rows_as (d := X.k53) (k := .i64) (n := 5) mk0 rfl (fun w z hz => by match z, hz with | [x0, x1, x2, x3, x4], _ => exact X.k53_mk w _) (fun z h => (hz0 z h).1) hR0
 have hw0 : ∀ x ∈ zs0.map mk0, (Lit.int .i64 x.f0).wf = true ∧ (Lit.int .i64 x.f1).wf = true ∧ (Lit.int .i64 x.f2).wf = true ∧ (Lit.int .i64 x.f3).wf = true ∧ (Lit.int .i64 x.f4).wf = true := by
  intro x hx
  obtain ⟨z, hz1, rfl⟩ := List.mem_map.1 hx
  obtain ⟨h1, h2⟩ := hz0 z hz1
  match z, h1, h2 with
  | [x0, x1, x2, x3, x4], _, h2 => exact ⟨h2 x0 (by simp), h2 x1 (by simp), h2 x2 (by simp), h2 x3 (by simp), h2 x4 (by simp)⟩
 have hm0 : (zs0.map mk0).length ≤ maxLen := by rw [List.length_map]; exact hx0
 obtain rfl : (zs0.map mk0).length = len0 := by rw [List.length_map]; exact hl0
 clear hA0 hval0 hsz0 hsz
 obtain ⟨k, hk⟩ := Pure.FnExactOpsFold (zs0.map mk0) hm0 hw0
 refine (X.laws_FnExactOpsFold.calls k _ _ (zs0.map mk0) true W hC0 hc0 hk).mono ?_
 rintro e W' ⟨rfl, hd⟩
 have bel : Below W.heap.size W W' := hd
 exact ⟨_, rfl, _, _, _, [], _, [], hW', trodAll_mk1 (shut_bool Try.underlying4 _), (trodAll_cons_mk (Below.trod laidOut (by kernel_rfl) (of_decide_eq_true (by kernel_rfl)) k0 bel lt0) trodAll_mk0), rfl, bel.frame _, fun h => by cases h⟩
theorem over : Rows.fnExactOpsFoldRow.holds Try.pinned (OpenSpec.ofChange Rows.fnExactOpsFoldSpec) :=
 OpenClaim.holds_of_wide 7 Try.f7 rfl rfl rfl rfl rfl rfl rfl ⟨rfl, rfl, rfl, rfl, rfl⟩ rfl rfl rfl rfl rfl (by kernel_rfl) Try.func7 (by kernel_rfl)
  (of_decide_eq_true (by kernel_rfl)) (by unfold Func.isWrapper; first | (rw [if_pos (by decide +kernel)]; kernel_rfl) | (rw [if_neg (by decide +kernel)]; exact ⟨rfl, rfl⟩))
  (fun os started H enc _ => lifted os started H enc)
theorem proved : Rows.FnExactOpsFoldSaid := over
#print axioms proved
end Go.Proofs.Ytjkaalcocgioaaa.fnExactOpsFold
namespace Go.Proofs.Ytjkaalcocgioaaa
/-- The row, under a short name, for the claim. -/
theorem fnExactOpsFold_holds : Rows.FnExactOpsFoldSaid := fnExactOpsFold.proved
end Go.Proofs.Ytjkaalcocgioaaa
