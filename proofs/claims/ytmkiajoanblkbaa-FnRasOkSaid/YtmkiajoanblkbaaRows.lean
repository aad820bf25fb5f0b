/-
  No cell of these rows narrows 'for every input' (looked for: loops, veiled, ifaces, maps, wideKeys, modest, calm, conditions, laid).
  DERIVED. THE GIVEN ROWS OF THIS SEAT. 8 by the template 'for every input the law returns true; each argument reads behind the call as it read before'; 0 by the template 'total and deterministic' (their statements: YtmkiajoanblkbaaTotals.lean).
  GIVEN WITH THE SEED: the statements are not yours to turn. If you find one false, say at which input.
  Laid BY PROGRAM, IN A SANDBOX (cutbox-rows.mjs): the forced cells as the released guide's own fill.sh prints them over the translation a4aebc1369d16f6d… (all of the seat's roots in one cut). By AI agents, Wed Nov 11 2026. No macro, syntax, notation, axiom, sorry.
-/
import Derived.Test.YtmkiajoanblkbaaChecked
import GoSem.Claim
import GoSem.ClaimJoined
import GoSem.ClaimMapViews
import Derived.JoinedTies
import Derived.KernelRfl
namespace Go.Proofs.Ytmkiajoanblkbaa
/- THE CELL 'sum', in the pinned program and in every row, IS THE sha256 OF THE DUMP (.gsa) THAT YtmkiajoanblkbaaProg.lean LOADS. Nothing in Lean hashes anything: it is a label: what it is worth is what the hold of that sum in a sandbox is worth. -/
noncomputable def Try.pinned : Pinned := { name := "ytmkiajoanblkbaa", sum := "a4aebc1369d16f6d3c1e58a0b575c1ad229ead622f4c9dd71b75cda5431736a8", checked := Try.checked }
namespace Rows
def none {H : Type} : Left H := { results := [], args := [] }

/-- 'laws.FnExactHexRead': WHATEVER THE INPUT: true; the input reads as it did. -/
def fnExactHexReadSpec : ChangeSpec := { name := "fnExactHexRead", fn := fun _ => fun
  | [d] => { results := [.lit (.bool true)], args := [d] }
  | _ => none }
def fnExactHexReadRow : OpenClaim := { program := "ytmkiajoanblkbaa", sum := "a4aebc1369d16f6d3c1e58a0b575c1ad229ead622f4c9dd71b75cda5431736a8", func := "loop.example/easel/laws.FnExactHexRead", spec := "fnExactHexRead", apart := false }
def FnExactHexReadSaid : Prop := fnExactHexReadRow.holds Try.pinned (OpenSpec.ofChange fnExactHexReadSpec)

/-- ITS FALSE NEIGHBOUR: 'it returns false'. Refute it at one input. -/
def fnExactHexReadWrong : ChangeSpec := { name := "fnExactHexRead", fn := fun _ => fun
  | [d] => { results := [.lit (.bool false)], args := [d] }
  | _ => none }
def FnExactHexReadWrongFalsely : Prop := fnExactHexReadRow.holds Try.pinned (OpenSpec.ofChange fnExactHexReadWrong)

/-- 'laws.FnOpOk': WHATEVER THE INPUT: true; the input reads as it did. -/
def fnOpOkSpec : ChangeSpec := { name := "fnOpOk", fn := fun _ => fun
  | [d] => { results := [.lit (.bool true)], args := [d] }
  | _ => none }
def fnOpOkRow : OpenClaim := { program := "ytmkiajoanblkbaa", sum := "a4aebc1369d16f6d3c1e58a0b575c1ad229ead622f4c9dd71b75cda5431736a8", func := "loop.example/easel/laws.FnOpOk", spec := "fnOpOk", apart := false }
def FnOpOkSaid : Prop := fnOpOkRow.holds Try.pinned (OpenSpec.ofChange fnOpOkSpec)

/-- ITS FALSE NEIGHBOUR: 'it returns false'. Refute it at one input. -/
def fnOpOkWrong : ChangeSpec := { name := "fnOpOk", fn := fun _ => fun
  | [d] => { results := [.lit (.bool false)], args := [d] }
  | _ => none }
def FnOpOkWrongFalsely : Prop := fnOpOkRow.holds Try.pinned (OpenSpec.ofChange fnOpOkWrong)

/-- 'laws.FnRasOk': WHATEVER THE INPUT: true; the input reads as it did. -/
def fnRasOkSpec : ChangeSpec := { name := "fnRasOk", fn := fun _ => fun
  | [d] => { results := [.lit (.bool true)], args := [d] }
  | _ => none }
def fnRasOkRow : OpenClaim := { program := "ytmkiajoanblkbaa", sum := "a4aebc1369d16f6d3c1e58a0b575c1ad229ead622f4c9dd71b75cda5431736a8", func := "loop.example/easel/laws.FnRasOk", spec := "fnRasOk", apart := false }
def FnRasOkSaid : Prop := fnRasOkRow.holds Try.pinned (OpenSpec.ofChange fnRasOkSpec)

/-- ITS FALSE NEIGHBOUR: 'it returns false'. Refute it at one input. -/
def fnRasOkWrong : ChangeSpec := { name := "fnRasOk", fn := fun _ => fun
  | [d] => { results := [.lit (.bool false)], args := [d] }
  | _ => none }
def FnRasOkWrongFalsely : Prop := fnRasOkRow.holds Try.pinned (OpenSpec.ofChange fnRasOkWrong)

/-- 'laws.FnExactRasOk': WHATEVER THE INPUT: true; the input reads as it did. -/
def fnExactRasOkSpec : ChangeSpec := { name := "fnExactRasOk", fn := fun _ => fun
  | [d] => { results := [.lit (.bool true)], args := [d] }
  | _ => none }
def fnExactRasOkRow : OpenClaim := { program := "ytmkiajoanblkbaa", sum := "a4aebc1369d16f6d3c1e58a0b575c1ad229ead622f4c9dd71b75cda5431736a8", func := "loop.example/easel/laws.FnExactRasOk", spec := "fnExactRasOk", apart := false }
def FnExactRasOkSaid : Prop := fnExactRasOkRow.holds Try.pinned (OpenSpec.ofChange fnExactRasOkSpec)

/-- ITS FALSE NEIGHBOUR: 'it returns false'. Refute it at one input. -/
def fnExactRasOkWrong : ChangeSpec := { name := "fnExactRasOk", fn := fun _ => fun
  | [d] => { results := [.lit (.bool false)], args := [d] }
  | _ => none }
def FnExactRasOkWrongFalsely : Prop := fnExactRasOkRow.holds Try.pinned (OpenSpec.ofChange fnExactRasOkWrong)

/-- 'laws.FnHexText': WHATEVER THE INPUT: true; the input reads as it did. -/
def fnHexTextSpec : ChangeSpec := { name := "fnHexText", fn := fun _ => fun
  | [d1, d2] => { results := [.lit (.bool true)], args := [d1, d2] }
  | _ => none }
def fnHexTextRow : OpenClaim := { program := "ytmkiajoanblkbaa", sum := "a4aebc1369d16f6d3c1e58a0b575c1ad229ead622f4c9dd71b75cda5431736a8", func := "loop.example/easel/laws.FnHexText", spec := "fnHexText", apart := false }
def FnHexTextSaid : Prop := fnHexTextRow.holds Try.pinned (OpenSpec.ofChange fnHexTextSpec)

/-- ITS FALSE NEIGHBOUR: 'it returns false'. Refute it at one input. -/
def fnHexTextWrong : ChangeSpec := { name := "fnHexText", fn := fun _ => fun
  | [d1, d2] => { results := [.lit (.bool false)], args := [d1, d2] }
  | _ => none }
def FnHexTextWrongFalsely : Prop := fnHexTextRow.holds Try.pinned (OpenSpec.ofChange fnHexTextWrong)

/-- 'laws.FnRasAt': WHATEVER THE INPUT: true; the input reads as it did. -/
def fnRasAtSpec : ChangeSpec := { name := "fnRasAt", fn := fun _ => fun
  | [d] => { results := [.lit (.bool true)], args := [d] }
  | _ => none }
def fnRasAtRow : OpenClaim := { program := "ytmkiajoanblkbaa", sum := "a4aebc1369d16f6d3c1e58a0b575c1ad229ead622f4c9dd71b75cda5431736a8", func := "loop.example/easel/laws.FnRasAt", spec := "fnRasAt", apart := false }
def FnRasAtSaid : Prop := fnRasAtRow.holds Try.pinned (OpenSpec.ofChange fnRasAtSpec)

/-- ITS FALSE NEIGHBOUR: 'it returns false'. Refute it at one input. -/
def fnRasAtWrong : ChangeSpec := { name := "fnRasAt", fn := fun _ => fun
  | [d] => { results := [.lit (.bool false)], args := [d] }
  | _ => none }
def FnRasAtWrongFalsely : Prop := fnRasAtRow.holds Try.pinned (OpenSpec.ofChange fnRasAtWrong)

/-- 'laws.FnExactRasAt': WHATEVER THE INPUT: true; the input reads as it did. -/
def fnExactRasAtSpec : ChangeSpec := { name := "fnExactRasAt", fn := fun _ => fun
  | [d1, d2, d3] => { results := [.lit (.bool true)], args := [d1, d2, d3] }
  | _ => none }
def fnExactRasAtRow : OpenClaim := { program := "ytmkiajoanblkbaa", sum := "a4aebc1369d16f6d3c1e58a0b575c1ad229ead622f4c9dd71b75cda5431736a8", func := "loop.example/easel/laws.FnExactRasAt", spec := "fnExactRasAt", apart := false }
def FnExactRasAtSaid : Prop := fnExactRasAtRow.holds Try.pinned (OpenSpec.ofChange fnExactRasAtSpec)

/-- ITS FALSE NEIGHBOUR: 'it returns false'. Refute it at one input. -/
def fnExactRasAtWrong : ChangeSpec := { name := "fnExactRasAt", fn := fun _ => fun
  | [d1, d2, d3] => { results := [.lit (.bool false)], args := [d1, d2, d3] }
  | _ => none }
def FnExactRasAtWrongFalsely : Prop := fnExactRasAtRow.holds Try.pinned (OpenSpec.ofChange fnExactRasAtWrong)

/-- 'laws.FnExactRasBytes': WHATEVER THE INPUT: true; the input reads as it did. -/
def fnExactRasBytesSpec : ChangeSpec := { name := "fnExactRasBytes", fn := fun _ => fun
  | [d] => { results := [.lit (.bool true)], args := [d] }
  | _ => none }
def fnExactRasBytesRow : OpenClaim := { program := "ytmkiajoanblkbaa", sum := "a4aebc1369d16f6d3c1e58a0b575c1ad229ead622f4c9dd71b75cda5431736a8", func := "loop.example/easel/laws.FnExactRasBytes", spec := "fnExactRasBytes", apart := false }
def FnExactRasBytesSaid : Prop := fnExactRasBytesRow.holds Try.pinned (OpenSpec.ofChange fnExactRasBytesSpec)

/-- ITS FALSE NEIGHBOUR: 'it returns false'. Refute it at one input. -/
def fnExactRasBytesWrong : ChangeSpec := { name := "fnExactRasBytes", fn := fun _ => fun
  | [d] => { results := [.lit (.bool false)], args := [d] }
  | _ => none }
def FnExactRasBytesWrongFalsely : Prop := fnExactRasBytesRow.holds Try.pinned (OpenSpec.ofChange fnExactRasBytesWrong)

/- THE SECOND FORM. 'bulk': how many values and letters a reading holds, each counted each time it is reached (what is shared counts as often as it is met; a slice's spare places count too). A statement '..UptoSaid' is the law's where the arguments, and the package variables that the reading takes, are together of bulk at most 1048576: NARROWER than '..Said'. Prove '..Said' where nothing that the law and all that it calls make is longer than what came in: it says more and counts as full. Else prove '..UptoSaid'. A law counts once. -/
mutual
def uptoBulk {H : Type} : DataW H → Nat
  | .lit (.string bytes) => bytes.length + 1
  | .lit _ => 1
  | .nil => 1
  | .ptr d => uptoBulk d + 1
  | .slice elems spare => uptoBulkAll elems + uptoBulkAll spare + 1
  | .agg parts => uptoBulkAll parts + 1
  | .iface _ d => uptoBulk d + 1
  | .map entries => uptoBulkEntries entries + 1
  | .held _ => 1
def uptoBulkAll {H : Type} : List (DataW H) → Nat
  | [] => 0
  | d :: r => uptoBulk d + uptoBulkAll r
def uptoBulkEntries {H : Type} : List (Lit × DataW H) → Nat
  | [] => 0
  | x :: r => uptoBulkEntry x + uptoBulkEntries r
def uptoBulkEntry {H : Type} : Lit × DataW H → Nat
  | (.string bytes, d) => bytes.length + uptoBulk d + 1
  | (_, d) => uptoBulk d + 1
 end
def uptoSmall : (H : Type) → List (DataW H) → Bool := fun _ ds => decide (uptoBulkAll ds ≤ 1048576)
def OpenSpec.upto (s : _root_.Go.ChangeSpec) : _root_.Go.OpenSpec := { _root_.Go.OpenSpec.ofChange s with cond := some uptoSmall }

/-- 'laws.FnExactHexRead', WHERE WHAT IT READS IS OF BULK AT MOST 1048576: true; the input reads as it did. -/
def fnExactHexReadUptoRow : OpenClaim := { program := "ytmkiajoanblkbaa", sum := "a4aebc1369d16f6d3c1e58a0b575c1ad229ead622f4c9dd71b75cda5431736a8", func := "loop.example/easel/laws.FnExactHexRead", spec := "fnExactHexRead", apart := false, narrowed := true }
def FnExactHexReadUptoSaid : Prop := fnExactHexReadUptoRow.holds Try.pinned (OpenSpec.upto fnExactHexReadSpec)

/-- 'laws.FnOpOk', WHERE WHAT IT READS IS OF BULK AT MOST 1048576: true; the input reads as it did. -/
def fnOpOkUptoRow : OpenClaim := { program := "ytmkiajoanblkbaa", sum := "a4aebc1369d16f6d3c1e58a0b575c1ad229ead622f4c9dd71b75cda5431736a8", func := "loop.example/easel/laws.FnOpOk", spec := "fnOpOk", apart := false, narrowed := true }
def FnOpOkUptoSaid : Prop := fnOpOkUptoRow.holds Try.pinned (OpenSpec.upto fnOpOkSpec)

/-- 'laws.FnRasOk', WHERE WHAT IT READS IS OF BULK AT MOST 1048576: true; the input reads as it did. -/
def fnRasOkUptoRow : OpenClaim := { program := "ytmkiajoanblkbaa", sum := "a4aebc1369d16f6d3c1e58a0b575c1ad229ead622f4c9dd71b75cda5431736a8", func := "loop.example/easel/laws.FnRasOk", spec := "fnRasOk", apart := false, narrowed := true }
def FnRasOkUptoSaid : Prop := fnRasOkUptoRow.holds Try.pinned (OpenSpec.upto fnRasOkSpec)

/-- 'laws.FnExactRasOk', WHERE WHAT IT READS IS OF BULK AT MOST 1048576: true; the input reads as it did. -/
def fnExactRasOkUptoRow : OpenClaim := { program := "ytmkiajoanblkbaa", sum := "a4aebc1369d16f6d3c1e58a0b575c1ad229ead622f4c9dd71b75cda5431736a8", func := "loop.example/easel/laws.FnExactRasOk", spec := "fnExactRasOk", apart := false, narrowed := true }
def FnExactRasOkUptoSaid : Prop := fnExactRasOkUptoRow.holds Try.pinned (OpenSpec.upto fnExactRasOkSpec)

/-- 'laws.FnHexText', WHERE WHAT IT READS IS OF BULK AT MOST 1048576: true; the input reads as it did. -/
def fnHexTextUptoRow : OpenClaim := { program := "ytmkiajoanblkbaa", sum := "a4aebc1369d16f6d3c1e58a0b575c1ad229ead622f4c9dd71b75cda5431736a8", func := "loop.example/easel/laws.FnHexText", spec := "fnHexText", apart := false, narrowed := true }
def FnHexTextUptoSaid : Prop := fnHexTextUptoRow.holds Try.pinned (OpenSpec.upto fnHexTextSpec)

/-- 'laws.FnRasAt', WHERE WHAT IT READS IS OF BULK AT MOST 1048576: true; the input reads as it did. -/
def fnRasAtUptoRow : OpenClaim := { program := "ytmkiajoanblkbaa", sum := "a4aebc1369d16f6d3c1e58a0b575c1ad229ead622f4c9dd71b75cda5431736a8", func := "loop.example/easel/laws.FnRasAt", spec := "fnRasAt", apart := false, narrowed := true }
def FnRasAtUptoSaid : Prop := fnRasAtUptoRow.holds Try.pinned (OpenSpec.upto fnRasAtSpec)

/-- 'laws.FnExactRasAt', WHERE WHAT IT READS IS OF BULK AT MOST 1048576: true; the input reads as it did. -/
def fnExactRasAtUptoRow : OpenClaim := { program := "ytmkiajoanblkbaa", sum := "a4aebc1369d16f6d3c1e58a0b575c1ad229ead622f4c9dd71b75cda5431736a8", func := "loop.example/easel/laws.FnExactRasAt", spec := "fnExactRasAt", apart := false, narrowed := true }
def FnExactRasAtUptoSaid : Prop := fnExactRasAtUptoRow.holds Try.pinned (OpenSpec.upto fnExactRasAtSpec)

/-- 'laws.FnExactRasBytes', WHERE WHAT IT READS IS OF BULK AT MOST 1048576: true; the input reads as it did. -/
def fnExactRasBytesUptoRow : OpenClaim := { program := "ytmkiajoanblkbaa", sum := "a4aebc1369d16f6d3c1e58a0b575c1ad229ead622f4c9dd71b75cda5431736a8", func := "loop.example/easel/laws.FnExactRasBytes", spec := "fnExactRasBytes", apart := false, narrowed := true }
def FnExactRasBytesUptoSaid : Prop := fnExactRasBytesUptoRow.holds Try.pinned (OpenSpec.upto fnExactRasBytesSpec)

end Rows
end Go.Proofs.Ytmkiajoanblkbaa
