/-
  No cell of these rows narrows 'for every input' (looked for: loops, veiled, ifaces, maps, wideKeys, modest, calm, conditions, laid).
  DERIVED. THE GIVEN ROWS OF THIS SEAT. 6 by the template 'for every input the law returns true; each argument reads behind the call as it read before'; 0 by the template 'total and deterministic' (their statements: YtcoiglbkeebccabTotals.lean).
  GIVEN WITH THE SEED: the statements are not yours to turn. If you find one false, say at which input.
  Laid BY PROGRAM, IN A SANDBOX (cutbox-rows.mjs): the forced cells as the released guide's own fill.sh prints them over the translation acd3c8b8a39cb3a7… (all of the seat's roots in one cut). By AI agents, Wed Nov 11 2026. No macro, syntax, notation, axiom, sorry.
-/
import Derived.Test.YtcoiglbkeebccabChecked
import GoSem.Claim
import GoSem.ClaimJoined
import GoSem.ClaimMapViews
import Derived.JoinedTies
import Derived.KernelRfl
namespace Go.Proofs.Ytcoiglbkeebccab
/- THE CELL 'sum', in the pinned program and in every row, IS THE sha256 OF THE DUMP (.gsa) THAT YtcoiglbkeebccabProg.lean LOADS. Nothing in Lean hashes anything: it is a label: what it is worth is what the hold of that sum in a sandbox is worth. -/
noncomputable def Try.pinned : Pinned := { name := "ytcoiglbkeebccab", sum := "acd3c8b8a39cb3a704da1bf1c9ec692cd1fa7beb14d3d88a9318ab288010a3cc", checked := Try.checked }
namespace Rows
def none {H : Type} : Left H := { results := [], args := [] }

/-- 'laws.FnExactBitGet': WHATEVER THE INPUT: true; the input reads as it did. -/
def fnExactBitGetSpec : ChangeSpec := { name := "fnExactBitGet", fn := fun _ => fun
  | [d1, d2, d3] => { results := [.lit (.bool true)], args := [d1, d2, d3] }
  | _ => none }
def fnExactBitGetRow : OpenClaim := { program := "ytcoiglbkeebccab", sum := "acd3c8b8a39cb3a704da1bf1c9ec692cd1fa7beb14d3d88a9318ab288010a3cc", func := "loop.example/easel/laws.FnExactBitGet", spec := "fnExactBitGet", apart := false }
def FnExactBitGetSaid : Prop := fnExactBitGetRow.holds Try.pinned (OpenSpec.ofChange fnExactBitGetSpec)

/-- ITS FALSE NEIGHBOUR: 'it returns false'. Refute it at one input. -/
def fnExactBitGetWrong : ChangeSpec := { name := "fnExactBitGet", fn := fun _ => fun
  | [d1, d2, d3] => { results := [.lit (.bool false)], args := [d1, d2, d3] }
  | _ => none }
def FnExactBitGetWrongFalsely : Prop := fnExactBitGetRow.holds Try.pinned (OpenSpec.ofChange fnExactBitGetWrong)

/-- 'laws.FnHexApart': WHATEVER THE INPUT: true; the input reads as it did. -/
def fnHexApartSpec : ChangeSpec := { name := "fnHexApart", fn := fun _ => fun
  | [d1, d2] => { results := [.lit (.bool true)], args := [d1, d2] }
  | _ => none }
def fnHexApartRow : OpenClaim := { program := "ytcoiglbkeebccab", sum := "acd3c8b8a39cb3a704da1bf1c9ec692cd1fa7beb14d3d88a9318ab288010a3cc", func := "loop.example/easel/laws.FnHexApart", spec := "fnHexApart", apart := false }
def FnHexApartSaid : Prop := fnHexApartRow.holds Try.pinned (OpenSpec.ofChange fnHexApartSpec)

/-- ITS FALSE NEIGHBOUR: 'it returns false'. Refute it at one input. -/
def fnHexApartWrong : ChangeSpec := { name := "fnHexApart", fn := fun _ => fun
  | [d1, d2] => { results := [.lit (.bool false)], args := [d1, d2] }
  | _ => none }
def FnHexApartWrongFalsely : Prop := fnHexApartRow.holds Try.pinned (OpenSpec.ofChange fnHexApartWrong)

/-- 'laws.FnBitOk': WHATEVER THE INPUT: true; the input reads as it did. -/
def fnBitOkSpec : ChangeSpec := { name := "fnBitOk", fn := fun _ => fun
  | [d] => { results := [.lit (.bool true)], args := [d] }
  | _ => none }
def fnBitOkRow : OpenClaim := { program := "ytcoiglbkeebccab", sum := "acd3c8b8a39cb3a704da1bf1c9ec692cd1fa7beb14d3d88a9318ab288010a3cc", func := "loop.example/easel/laws.FnBitOk", spec := "fnBitOk", apart := false }
def FnBitOkSaid : Prop := fnBitOkRow.holds Try.pinned (OpenSpec.ofChange fnBitOkSpec)

/-- ITS FALSE NEIGHBOUR: 'it returns false'. Refute it at one input. -/
def fnBitOkWrong : ChangeSpec := { name := "fnBitOk", fn := fun _ => fun
  | [d] => { results := [.lit (.bool false)], args := [d] }
  | _ => none }
def FnBitOkWrongFalsely : Prop := fnBitOkRow.holds Try.pinned (OpenSpec.ofChange fnBitOkWrong)

/-- 'laws.FnSumOf': WHATEVER THE INPUT: true; the input reads as it did. -/
def fnSumOfSpec : ChangeSpec := { name := "fnSumOf", fn := fun _ => fun
  | [d] => { results := [.lit (.bool true)], args := [d] }
  | _ => none }
def fnSumOfRow : OpenClaim := { program := "ytcoiglbkeebccab", sum := "acd3c8b8a39cb3a704da1bf1c9ec692cd1fa7beb14d3d88a9318ab288010a3cc", func := "loop.example/easel/laws.FnSumOf", spec := "fnSumOf", apart := false }
def FnSumOfSaid : Prop := fnSumOfRow.holds Try.pinned (OpenSpec.ofChange fnSumOfSpec)

/-- ITS FALSE NEIGHBOUR: 'it returns false'. Refute it at one input. -/
def fnSumOfWrong : ChangeSpec := { name := "fnSumOf", fn := fun _ => fun
  | [d] => { results := [.lit (.bool false)], args := [d] }
  | _ => none }
def FnSumOfWrongFalsely : Prop := fnSumOfRow.holds Try.pinned (OpenSpec.ofChange fnSumOfWrong)

/-- 'laws.FnSumTwo': WHATEVER THE INPUT: true; the input reads as it did. -/
def fnSumTwoSpec : ChangeSpec := { name := "fnSumTwo", fn := fun _ => fun
  | [d1, d2] => { results := [.lit (.bool true)], args := [d1, d2] }
  | _ => none }
def fnSumTwoRow : OpenClaim := { program := "ytcoiglbkeebccab", sum := "acd3c8b8a39cb3a704da1bf1c9ec692cd1fa7beb14d3d88a9318ab288010a3cc", func := "loop.example/easel/laws.FnSumTwo", spec := "fnSumTwo", apart := false }
def FnSumTwoSaid : Prop := fnSumTwoRow.holds Try.pinned (OpenSpec.ofChange fnSumTwoSpec)

/-- ITS FALSE NEIGHBOUR: 'it returns false'. Refute it at one input. -/
def fnSumTwoWrong : ChangeSpec := { name := "fnSumTwo", fn := fun _ => fun
  | [d1, d2] => { results := [.lit (.bool false)], args := [d1, d2] }
  | _ => none }
def FnSumTwoWrongFalsely : Prop := fnSumTwoRow.holds Try.pinned (OpenSpec.ofChange fnSumTwoWrong)

/-- 'laws.FnBitGet': WHATEVER THE INPUT: true; the input reads as it did. -/
def fnBitGetSpec : ChangeSpec := { name := "fnBitGet", fn := fun _ => fun
  | [d] => { results := [.lit (.bool true)], args := [d] }
  | _ => none }
def fnBitGetRow : OpenClaim := { program := "ytcoiglbkeebccab", sum := "acd3c8b8a39cb3a704da1bf1c9ec692cd1fa7beb14d3d88a9318ab288010a3cc", func := "loop.example/easel/laws.FnBitGet", spec := "fnBitGet", apart := false }
def FnBitGetSaid : Prop := fnBitGetRow.holds Try.pinned (OpenSpec.ofChange fnBitGetSpec)

/-- ITS FALSE NEIGHBOUR: 'it returns false'. Refute it at one input. -/
def fnBitGetWrong : ChangeSpec := { name := "fnBitGet", fn := fun _ => fun
  | [d] => { results := [.lit (.bool false)], args := [d] }
  | _ => none }
def FnBitGetWrongFalsely : Prop := fnBitGetRow.holds Try.pinned (OpenSpec.ofChange fnBitGetWrong)

/- THE SECOND FORM. 'bulk': how many values and letters a reading holds, each counted each time it is reached (what is shared counts as often as it is met; a slice's spare places count too). A statement '..UptoSaid' is the law's where the arguments, and the package variables that the reading takes, are together of bulk at most 1048576: NARROWER than '..Said'. Prove '..Said' where nothing that the law and all that it calls make is longer than what came in: it says more and counts as full. Else prove '..UptoSaid'. A law counts once. -/
mutual
def uptoBulk {H : Type} : DataW H → Nat
  | .lit (.string bytes) => bytes.length + 1
  | .lit _ => 1
  | .nil => 1
  | .ptr d => uptoBulk d + 1
  | .slice elems spare => uptoBulkAll elems + uptoBulkAll spare + 1
  | .agg parts => uptoBulkAll parts + 1
  | .iface _ d => uptoBulk d + 1
  | .map entries => uptoBulkEntries entries + 1
  | .held _ => 1
def uptoBulkAll {H : Type} : List (DataW H) → Nat
  | [] => 0
  | d :: r => uptoBulk d + uptoBulkAll r
def uptoBulkEntries {H : Type} : List (Lit × DataW H) → Nat
  | [] => 0
  | x :: r => uptoBulkEntry x + uptoBulkEntries r
def uptoBulkEntry {H : Type} : Lit × DataW H → Nat
  | (.string bytes, d) => bytes.length + uptoBulk d + 1
  | (_, d) => uptoBulk d + 1
 end
def uptoSmall : (H : Type) → List (DataW H) → Bool := fun _ ds => decide (uptoBulkAll ds ≤ 1048576)
def OpenSpec.upto (s : _root_.Go.ChangeSpec) : _root_.Go.OpenSpec := { _root_.Go.OpenSpec.ofChange s with cond := some uptoSmall }

/-- 'laws.FnExactBitGet', WHERE WHAT IT READS IS OF BULK AT MOST 1048576: true; the input reads as it did. -/
def fnExactBitGetUptoRow : OpenClaim := { program := "ytcoiglbkeebccab", sum := "acd3c8b8a39cb3a704da1bf1c9ec692cd1fa7beb14d3d88a9318ab288010a3cc", func := "loop.example/easel/laws.FnExactBitGet", spec := "fnExactBitGet", apart := false, narrowed := true }
def FnExactBitGetUptoSaid : Prop := fnExactBitGetUptoRow.holds Try.pinned (OpenSpec.upto fnExactBitGetSpec)

/-- 'laws.FnHexApart', WHERE WHAT IT READS IS OF BULK AT MOST 1048576: true; the input reads as it did. -/
def fnHexApartUptoRow : OpenClaim := { program := "ytcoiglbkeebccab", sum := "acd3c8b8a39cb3a704da1bf1c9ec692cd1fa7beb14d3d88a9318ab288010a3cc", func := "loop.example/easel/laws.FnHexApart", spec := "fnHexApart", apart := false, narrowed := true }
def FnHexApartUptoSaid : Prop := fnHexApartUptoRow.holds Try.pinned (OpenSpec.upto fnHexApartSpec)

/-- 'laws.FnBitOk', WHERE WHAT IT READS IS OF BULK AT MOST 1048576: true; the input reads as it did. -/
def fnBitOkUptoRow : OpenClaim := { program := "ytcoiglbkeebccab", sum := "acd3c8b8a39cb3a704da1bf1c9ec692cd1fa7beb14d3d88a9318ab288010a3cc", func := "loop.example/easel/laws.FnBitOk", spec := "fnBitOk", apart := false, narrowed := true }
def FnBitOkUptoSaid : Prop := fnBitOkUptoRow.holds Try.pinned (OpenSpec.upto fnBitOkSpec)

/-- 'laws.FnSumOf', WHERE WHAT IT READS IS OF BULK AT MOST 1048576: true; the input reads as it did. -/
def fnSumOfUptoRow : OpenClaim := { program := "ytcoiglbkeebccab", sum := "acd3c8b8a39cb3a704da1bf1c9ec692cd1fa7beb14d3d88a9318ab288010a3cc", func := "loop.example/easel/laws.FnSumOf", spec := "fnSumOf", apart := false, narrowed := true }
def FnSumOfUptoSaid : Prop := fnSumOfUptoRow.holds Try.pinned (OpenSpec.upto fnSumOfSpec)

/-- 'laws.FnSumTwo', WHERE WHAT IT READS IS OF BULK AT MOST 1048576: true; the input reads as it did. -/
def fnSumTwoUptoRow : OpenClaim := { program := "ytcoiglbkeebccab", sum := "acd3c8b8a39cb3a704da1bf1c9ec692cd1fa7beb14d3d88a9318ab288010a3cc", func := "loop.example/easel/laws.FnSumTwo", spec := "fnSumTwo", apart := false, narrowed := true }
def FnSumTwoUptoSaid : Prop := fnSumTwoUptoRow.holds Try.pinned (OpenSpec.upto fnSumTwoSpec)

/-- 'laws.FnBitGet', WHERE WHAT IT READS IS OF BULK AT MOST 1048576: true; the input reads as it did. -/
def fnBitGetUptoRow : OpenClaim := { program := "ytcoiglbkeebccab", sum := "acd3c8b8a39cb3a704da1bf1c9ec692cd1fa7beb14d3d88a9318ab288010a3cc", func := "loop.example/easel/laws.FnBitGet", spec := "fnBitGet", apart := false, narrowed := true }
def FnBitGetUptoSaid : Prop := fnBitGetUptoRow.holds Try.pinned (OpenSpec.upto fnBitGetSpec)

end Rows
end Go.Proofs.Ytcoiglbkeebccab
