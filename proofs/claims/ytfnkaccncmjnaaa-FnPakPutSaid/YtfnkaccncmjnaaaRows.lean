/-
  No cell of these rows narrows 'for every input' (looked for: loops, veiled, ifaces, maps, wideKeys, modest, calm, conditions, laid).
  DERIVED. THE GIVEN ROWS OF THIS SEAT. 10 by the template 'for every input the law returns true; each argument reads behind the call as it read before'; 0 by the template 'total and deterministic' (their statements: YtfnkaccncmjnaaaTotals.lean).
  GIVEN WITH THE SEED: the statements are not yours to turn. If you find one false, say at which input.
  Laid BY PROGRAM, IN A SANDBOX (cutbox-rows.mjs): the forced cells as the released guide's own fill.sh prints them over the translation 01b675d64e53a945… (all of the seat's roots in one cut). By AI agents, Wed Nov 11 2026. No macro, syntax, notation, axiom, sorry.
-/
import Derived.Test.YtfnkaccncmjnaaaChecked
import GoSem.Claim
import GoSem.ClaimJoined
import GoSem.ClaimMapViews
import Derived.JoinedTies
import Derived.KernelRfl
namespace Go.Proofs.Ytfnkaccncmjnaaa
/- THE CELL 'sum', in the pinned program and in every row, IS THE sha256 OF THE DUMP (.gsa) THAT YtfnkaccncmjnaaaProg.lean LOADS. Nothing in Lean hashes anything: it is a label: what it is worth is what the hold of that sum in a sandbox is worth. -/
noncomputable def Try.pinned : Pinned := { name := "ytfnkaccncmjnaaa", sum := "01b675d64e53a945d9f9ae6174298421a7faaea0c5fa5b6a2eaf7d666ed197bd", checked := Try.checked }
namespace Rows
def none {H : Type} : Left H := { results := [], args := [] }

/-- 'laws.FnExactBitPut': WHATEVER THE INPUT: true; the input reads as it did. -/
def fnExactBitPutSpec : ChangeSpec := { name := "fnExactBitPut", fn := fun _ => fun
  | [d] => { results := [.lit (.bool true)], args := [d] }
  | _ => none }
def fnExactBitPutRow : OpenClaim := { program := "ytfnkaccncmjnaaa", sum := "01b675d64e53a945d9f9ae6174298421a7faaea0c5fa5b6a2eaf7d666ed197bd", func := "loop.example/easel/laws.FnExactBitPut", spec := "fnExactBitPut", apart := false }
def FnExactBitPutSaid : Prop := fnExactBitPutRow.holds Try.pinned (OpenSpec.ofChange fnExactBitPutSpec)

/-- ITS FALSE NEIGHBOUR: 'it returns false'. Refute it at one input. -/
def fnExactBitPutWrong : ChangeSpec := { name := "fnExactBitPut", fn := fun _ => fun
  | [d] => { results := [.lit (.bool false)], args := [d] }
  | _ => none }
def FnExactBitPutWrongFalsely : Prop := fnExactBitPutRow.holds Try.pinned (OpenSpec.ofChange fnExactBitPutWrong)

/-- 'laws.FnBitPut': WHATEVER THE INPUT: true; the input reads as it did. -/
def fnBitPutSpec : ChangeSpec := { name := "fnBitPut", fn := fun _ => fun
  | [d] => { results := [.lit (.bool true)], args := [d] }
  | _ => none }
def fnBitPutRow : OpenClaim := { program := "ytfnkaccncmjnaaa", sum := "01b675d64e53a945d9f9ae6174298421a7faaea0c5fa5b6a2eaf7d666ed197bd", func := "loop.example/easel/laws.FnBitPut", spec := "fnBitPut", apart := false }
def FnBitPutSaid : Prop := fnBitPutRow.holds Try.pinned (OpenSpec.ofChange fnBitPutSpec)

/-- ITS FALSE NEIGHBOUR: 'it returns false'. Refute it at one input. -/
def fnBitPutWrong : ChangeSpec := { name := "fnBitPut", fn := fun _ => fun
  | [d] => { results := [.lit (.bool false)], args := [d] }
  | _ => none }
def FnBitPutWrongFalsely : Prop := fnBitPutRow.holds Try.pinned (OpenSpec.ofChange fnBitPutWrong)

/-- 'laws.FnBitApart': WHATEVER THE INPUT: true; the input reads as it did. -/
def fnBitApartSpec : ChangeSpec := { name := "fnBitApart", fn := fun _ => fun
  | [d1, d2] => { results := [.lit (.bool true)], args := [d1, d2] }
  | _ => none }
def fnBitApartRow : OpenClaim := { program := "ytfnkaccncmjnaaa", sum := "01b675d64e53a945d9f9ae6174298421a7faaea0c5fa5b6a2eaf7d666ed197bd", func := "loop.example/easel/laws.FnBitApart", spec := "fnBitApart", apart := false }
def FnBitApartSaid : Prop := fnBitApartRow.holds Try.pinned (OpenSpec.ofChange fnBitApartSpec)

/-- ITS FALSE NEIGHBOUR: 'it returns false'. Refute it at one input. -/
def fnBitApartWrong : ChangeSpec := { name := "fnBitApart", fn := fun _ => fun
  | [d1, d2] => { results := [.lit (.bool false)], args := [d1, d2] }
  | _ => none }
def FnBitApartWrongFalsely : Prop := fnBitApartRow.holds Try.pinned (OpenSpec.ofChange fnBitApartWrong)

/-- 'laws.FnBitJoin': WHATEVER THE INPUT: true; the input reads as it did. -/
def fnBitJoinSpec : ChangeSpec := { name := "fnBitJoin", fn := fun _ => fun
  | [d1, d2] => { results := [.lit (.bool true)], args := [d1, d2] }
  | _ => none }
def fnBitJoinRow : OpenClaim := { program := "ytfnkaccncmjnaaa", sum := "01b675d64e53a945d9f9ae6174298421a7faaea0c5fa5b6a2eaf7d666ed197bd", func := "loop.example/easel/laws.FnBitJoin", spec := "fnBitJoin", apart := false }
def FnBitJoinSaid : Prop := fnBitJoinRow.holds Try.pinned (OpenSpec.ofChange fnBitJoinSpec)

/-- ITS FALSE NEIGHBOUR: 'it returns false'. Refute it at one input. -/
def fnBitJoinWrong : ChangeSpec := { name := "fnBitJoin", fn := fun _ => fun
  | [d1, d2] => { results := [.lit (.bool false)], args := [d1, d2] }
  | _ => none }
def FnBitJoinWrongFalsely : Prop := fnBitJoinRow.holds Try.pinned (OpenSpec.ofChange fnBitJoinWrong)

/-- 'laws.FnExactPakGet': WHATEVER THE INPUT: true; the input reads as it did. -/
def fnExactPakGetSpec : ChangeSpec := { name := "fnExactPakGet", fn := fun _ => fun
  | [d] => { results := [.lit (.bool true)], args := [d] }
  | _ => none }
def fnExactPakGetRow : OpenClaim := { program := "ytfnkaccncmjnaaa", sum := "01b675d64e53a945d9f9ae6174298421a7faaea0c5fa5b6a2eaf7d666ed197bd", func := "loop.example/easel/laws.FnExactPakGet", spec := "fnExactPakGet", apart := false }
def FnExactPakGetSaid : Prop := fnExactPakGetRow.holds Try.pinned (OpenSpec.ofChange fnExactPakGetSpec)

/-- ITS FALSE NEIGHBOUR: 'it returns false'. Refute it at one input. -/
def fnExactPakGetWrong : ChangeSpec := { name := "fnExactPakGet", fn := fun _ => fun
  | [d] => { results := [.lit (.bool false)], args := [d] }
  | _ => none }
def FnExactPakGetWrongFalsely : Prop := fnExactPakGetRow.holds Try.pinned (OpenSpec.ofChange fnExactPakGetWrong)

/-- 'laws.FnExactPakPut': WHATEVER THE INPUT: true; the input reads as it did. -/
def fnExactPakPutSpec : ChangeSpec := { name := "fnExactPakPut", fn := fun _ => fun
  | [d] => { results := [.lit (.bool true)], args := [d] }
  | _ => none }
def fnExactPakPutRow : OpenClaim := { program := "ytfnkaccncmjnaaa", sum := "01b675d64e53a945d9f9ae6174298421a7faaea0c5fa5b6a2eaf7d666ed197bd", func := "loop.example/easel/laws.FnExactPakPut", spec := "fnExactPakPut", apart := false }
def FnExactPakPutSaid : Prop := fnExactPakPutRow.holds Try.pinned (OpenSpec.ofChange fnExactPakPutSpec)

/-- ITS FALSE NEIGHBOUR: 'it returns false'. Refute it at one input. -/
def fnExactPakPutWrong : ChangeSpec := { name := "fnExactPakPut", fn := fun _ => fun
  | [d] => { results := [.lit (.bool false)], args := [d] }
  | _ => none }
def FnExactPakPutWrongFalsely : Prop := fnExactPakPutRow.holds Try.pinned (OpenSpec.ofChange fnExactPakPutWrong)

/-- 'laws.FnPakApart': WHATEVER THE INPUT: true; the input reads as it did. -/
def fnPakApartSpec : ChangeSpec := { name := "fnPakApart", fn := fun _ => fun
  | [d1, d2] => { results := [.lit (.bool true)], args := [d1, d2] }
  | _ => none }
def fnPakApartRow : OpenClaim := { program := "ytfnkaccncmjnaaa", sum := "01b675d64e53a945d9f9ae6174298421a7faaea0c5fa5b6a2eaf7d666ed197bd", func := "loop.example/easel/laws.FnPakApart", spec := "fnPakApart", apart := false }
def FnPakApartSaid : Prop := fnPakApartRow.holds Try.pinned (OpenSpec.ofChange fnPakApartSpec)

/-- ITS FALSE NEIGHBOUR: 'it returns false'. Refute it at one input. -/
def fnPakApartWrong : ChangeSpec := { name := "fnPakApart", fn := fun _ => fun
  | [d1, d2] => { results := [.lit (.bool false)], args := [d1, d2] }
  | _ => none }
def FnPakApartWrongFalsely : Prop := fnPakApartRow.holds Try.pinned (OpenSpec.ofChange fnPakApartWrong)

/-- 'laws.FnPakMore': WHATEVER THE INPUT: true; the input reads as it did. -/
def fnPakMoreSpec : ChangeSpec := { name := "fnPakMore", fn := fun _ => fun
  | [d] => { results := [.lit (.bool true)], args := [d] }
  | _ => none }
def fnPakMoreRow : OpenClaim := { program := "ytfnkaccncmjnaaa", sum := "01b675d64e53a945d9f9ae6174298421a7faaea0c5fa5b6a2eaf7d666ed197bd", func := "loop.example/easel/laws.FnPakMore", spec := "fnPakMore", apart := false }
def FnPakMoreSaid : Prop := fnPakMoreRow.holds Try.pinned (OpenSpec.ofChange fnPakMoreSpec)

/-- ITS FALSE NEIGHBOUR: 'it returns false'. Refute it at one input. -/
def fnPakMoreWrong : ChangeSpec := { name := "fnPakMore", fn := fun _ => fun
  | [d] => { results := [.lit (.bool false)], args := [d] }
  | _ => none }
def FnPakMoreWrongFalsely : Prop := fnPakMoreRow.holds Try.pinned (OpenSpec.ofChange fnPakMoreWrong)

/-- 'laws.FnPakPut': WHATEVER THE INPUT: true; the input reads as it did. -/
def fnPakPutSpec : ChangeSpec := { name := "fnPakPut", fn := fun _ => fun
  | [d] => { results := [.lit (.bool true)], args := [d] }
  | _ => none }
def fnPakPutRow : OpenClaim := { program := "ytfnkaccncmjnaaa", sum := "01b675d64e53a945d9f9ae6174298421a7faaea0c5fa5b6a2eaf7d666ed197bd", func := "loop.example/easel/laws.FnPakPut", spec := "fnPakPut", apart := false }
def FnPakPutSaid : Prop := fnPakPutRow.holds Try.pinned (OpenSpec.ofChange fnPakPutSpec)

/-- ITS FALSE NEIGHBOUR: 'it returns false'. Refute it at one input. -/
def fnPakPutWrong : ChangeSpec := { name := "fnPakPut", fn := fun _ => fun
  | [d] => { results := [.lit (.bool false)], args := [d] }
  | _ => none }
def FnPakPutWrongFalsely : Prop := fnPakPutRow.holds Try.pinned (OpenSpec.ofChange fnPakPutWrong)

/-- 'laws.FnPakGet': WHATEVER THE INPUT: true; the input reads as it did. -/
def fnPakGetSpec : ChangeSpec := { name := "fnPakGet", fn := fun _ => fun
  | [d] => { results := [.lit (.bool true)], args := [d] }
  | _ => none }
def fnPakGetRow : OpenClaim := { program := "ytfnkaccncmjnaaa", sum := "01b675d64e53a945d9f9ae6174298421a7faaea0c5fa5b6a2eaf7d666ed197bd", func := "loop.example/easel/laws.FnPakGet", spec := "fnPakGet", apart := false }
def FnPakGetSaid : Prop := fnPakGetRow.holds Try.pinned (OpenSpec.ofChange fnPakGetSpec)

/-- ITS FALSE NEIGHBOUR: 'it returns false'. Refute it at one input. -/
def fnPakGetWrong : ChangeSpec := { name := "fnPakGet", fn := fun _ => fun
  | [d] => { results := [.lit (.bool false)], args := [d] }
  | _ => none }
def FnPakGetWrongFalsely : Prop := fnPakGetRow.holds Try.pinned (OpenSpec.ofChange fnPakGetWrong)

/- THE SECOND FORM. 'bulk': how many values and letters a reading holds, each counted each time it is reached (what is shared counts as often as it is met; a slice's spare places count too). A statement '..UptoSaid' is the law's where the arguments, and the package variables that the reading takes, are together of bulk at most 1048576: NARROWER than '..Said'. Prove '..Said' where nothing that the law and all that it calls make is longer than what came in: it says more and counts as full. Else prove '..UptoSaid'. A law counts once. -/
mutual
def uptoBulk {H : Type} : DataW H → Nat
  | .lit (.string bytes) => bytes.length + 1
  | .lit _ => 1
  | .nil => 1
  | .ptr d => uptoBulk d + 1
  | .slice elems spare => uptoBulkAll elems + uptoBulkAll spare + 1
  | .agg parts => uptoBulkAll parts + 1
  | .iface _ d => uptoBulk d + 1
  | .map entries => uptoBulkEntries entries + 1
  | .held _ => 1
def uptoBulkAll {H : Type} : List (DataW H) → Nat
  | [] => 0
  | d :: r => uptoBulk d + uptoBulkAll r
def uptoBulkEntries {H : Type} : List (Lit × DataW H) → Nat
  | [] => 0
  | x :: r => uptoBulkEntry x + uptoBulkEntries r
def uptoBulkEntry {H : Type} : Lit × DataW H → Nat
  | (.string bytes, d) => bytes.length + uptoBulk d + 1
  | (_, d) => uptoBulk d + 1
 end
def uptoSmall : (H : Type) → List (DataW H) → Bool := fun _ ds => decide (uptoBulkAll ds ≤ 1048576)
def OpenSpec.upto (s : _root_.Go.ChangeSpec) : _root_.Go.OpenSpec := { _root_.Go.OpenSpec.ofChange s with cond := some uptoSmall }

/-- 'laws.FnExactBitPut', WHERE WHAT IT READS IS OF BULK AT MOST 1048576: true; the input reads as it did. -/
def fnExactBitPutUptoRow : OpenClaim := { program := "ytfnkaccncmjnaaa", sum := "01b675d64e53a945d9f9ae6174298421a7faaea0c5fa5b6a2eaf7d666ed197bd", func := "loop.example/easel/laws.FnExactBitPut", spec := "fnExactBitPut", apart := false, narrowed := true }
def FnExactBitPutUptoSaid : Prop := fnExactBitPutUptoRow.holds Try.pinned (OpenSpec.upto fnExactBitPutSpec)

/-- 'laws.FnBitPut', WHERE WHAT IT READS IS OF BULK AT MOST 1048576: true; the input reads as it did. -/
def fnBitPutUptoRow : OpenClaim := { program := "ytfnkaccncmjnaaa", sum := "01b675d64e53a945d9f9ae6174298421a7faaea0c5fa5b6a2eaf7d666ed197bd", func := "loop.example/easel/laws.FnBitPut", spec := "fnBitPut", apart := false, narrowed := true }
def FnBitPutUptoSaid : Prop := fnBitPutUptoRow.holds Try.pinned (OpenSpec.upto fnBitPutSpec)

/-- 'laws.FnBitApart', WHERE WHAT IT READS IS OF BULK AT MOST 1048576: true; the input reads as it did. -/
def fnBitApartUptoRow : OpenClaim := { program := "ytfnkaccncmjnaaa", sum := "01b675d64e53a945d9f9ae6174298421a7faaea0c5fa5b6a2eaf7d666ed197bd", func := "loop.example/easel/laws.FnBitApart", spec := "fnBitApart", apart := false, narrowed := true }
def FnBitApartUptoSaid : Prop := fnBitApartUptoRow.holds Try.pinned (OpenSpec.upto fnBitApartSpec)

/-- 'laws.FnBitJoin', WHERE WHAT IT READS IS OF BULK AT MOST 1048576: true; the input reads as it did. -/
def fnBitJoinUptoRow : OpenClaim := { program := "ytfnkaccncmjnaaa", sum := "01b675d64e53a945d9f9ae6174298421a7faaea0c5fa5b6a2eaf7d666ed197bd", func := "loop.example/easel/laws.FnBitJoin", spec := "fnBitJoin", apart := false, narrowed := true }
def FnBitJoinUptoSaid : Prop := fnBitJoinUptoRow.holds Try.pinned (OpenSpec.upto fnBitJoinSpec)

/-- 'laws.FnExactPakGet', WHERE WHAT IT READS IS OF BULK AT MOST 1048576: true; the input reads as it did. -/
def fnExactPakGetUptoRow : OpenClaim := { program := "ytfnkaccncmjnaaa", sum := "01b675d64e53a945d9f9ae6174298421a7faaea0c5fa5b6a2eaf7d666ed197bd", func := "loop.example/easel/laws.FnExactPakGet", spec := "fnExactPakGet", apart := false, narrowed := true }
def FnExactPakGetUptoSaid : Prop := fnExactPakGetUptoRow.holds Try.pinned (OpenSpec.upto fnExactPakGetSpec)

/-- 'laws.FnExactPakPut', WHERE WHAT IT READS IS OF BULK AT MOST 1048576: true; the input reads as it did. -/
def fnExactPakPutUptoRow : OpenClaim := { program := "ytfnkaccncmjnaaa", sum := "01b675d64e53a945d9f9ae6174298421a7faaea0c5fa5b6a2eaf7d666ed197bd", func := "loop.example/easel/laws.FnExactPakPut", spec := "fnExactPakPut", apart := false, narrowed := true }
def FnExactPakPutUptoSaid : Prop := fnExactPakPutUptoRow.holds Try.pinned (OpenSpec.upto fnExactPakPutSpec)

/-- 'laws.FnPakApart', WHERE WHAT IT READS IS OF BULK AT MOST 1048576: true; the input reads as it did. -/
def fnPakApartUptoRow : OpenClaim := { program := "ytfnkaccncmjnaaa", sum := "01b675d64e53a945d9f9ae6174298421a7faaea0c5fa5b6a2eaf7d666ed197bd", func := "loop.example/easel/laws.FnPakApart", spec := "fnPakApart", apart := false, narrowed := true }
def FnPakApartUptoSaid : Prop := fnPakApartUptoRow.holds Try.pinned (OpenSpec.upto fnPakApartSpec)

/-- 'laws.FnPakMore', WHERE WHAT IT READS IS OF BULK AT MOST 1048576: true; the input reads as it did. -/
def fnPakMoreUptoRow : OpenClaim := { program := "ytfnkaccncmjnaaa", sum := "01b675d64e53a945d9f9ae6174298421a7faaea0c5fa5b6a2eaf7d666ed197bd", func := "loop.example/easel/laws.FnPakMore", spec := "fnPakMore", apart := false, narrowed := true }
def FnPakMoreUptoSaid : Prop := fnPakMoreUptoRow.holds Try.pinned (OpenSpec.upto fnPakMoreSpec)

/-- 'laws.FnPakPut', WHERE WHAT IT READS IS OF BULK AT MOST 1048576: true; the input reads as it did. -/
def fnPakPutUptoRow : OpenClaim := { program := "ytfnkaccncmjnaaa", sum := "01b675d64e53a945d9f9ae6174298421a7faaea0c5fa5b6a2eaf7d666ed197bd", func := "loop.example/easel/laws.FnPakPut", spec := "fnPakPut", apart := false, narrowed := true }
def FnPakPutUptoSaid : Prop := fnPakPutUptoRow.holds Try.pinned (OpenSpec.upto fnPakPutSpec)

/-- 'laws.FnPakGet', WHERE WHAT IT READS IS OF BULK AT MOST 1048576: true; the input reads as it did. -/
def fnPakGetUptoRow : OpenClaim := { program := "ytfnkaccncmjnaaa", sum := "01b675d64e53a945d9f9ae6174298421a7faaea0c5fa5b6a2eaf7d666ed197bd", func := "loop.example/easel/laws.FnPakGet", spec := "fnPakGet", apart := false, narrowed := true }
def FnPakGetUptoSaid : Prop := fnPakGetUptoRow.holds Try.pinned (OpenSpec.upto fnPakGetSpec)

end Rows
end Go.Proofs.Ytfnkaccncmjnaaa
