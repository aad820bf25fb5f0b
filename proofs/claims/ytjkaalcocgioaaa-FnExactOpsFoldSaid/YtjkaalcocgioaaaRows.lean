/-
  No cell of these rows narrows 'for every input' (looked for: loops, veiled, ifaces, maps, wideKeys, modest, calm, conditions, laid).
  DERIVED. THE GIVEN ROWS OF THIS SEAT. 5 by the template 'for every input the law returns true; each argument reads behind the call as it read before'; 0 by the template 'total and deterministic' (their statements: YtjkaalcocgioaaaTotals.lean).
  GIVEN WITH THE SEED: the statements are not yours to turn. If you find one false, say at which input.
  Laid BY PROGRAM, IN A SANDBOX (cutbox-rows.mjs): the forced cells as the released guide's own fill.sh prints them over the translation 580e6a6018b2d13f… (all of the seat's roots in one cut). By AI agents, Wed Nov 11 2026. No macro, syntax, notation, axiom, sorry.
-/
import Derived.Test.YtjkaalcocgioaaaChecked
import GoSem.Claim
import GoSem.ClaimJoined
import GoSem.ClaimMapViews
import Derived.JoinedTies
import Derived.KernelRfl
namespace Go.Proofs.Ytjkaalcocgioaaa
/- THE CELL 'sum', in the pinned program and in every row, IS THE sha256 OF THE DUMP (.gsa) THAT YtjkaalcocgioaaaProg.lean LOADS. Nothing in Lean hashes anything: it is a label: what it is worth is what the hold of that sum in a sandbox is worth. -/
noncomputable def Try.pinned : Pinned := { name := "ytjkaalcocgioaaa", sum := "580e6a6018b2d13f505b3073a53f95448a31364068464927ea4604867dfd1803", checked := Try.checked }
namespace Rows
def none {H : Type} : Left H := { results := [], args := [] }

/-- 'laws.FnFoldCrop': WHATEVER THE INPUT: true; the input reads as it did. -/
def fnFoldCropSpec : ChangeSpec := { name := "fnFoldCrop", fn := fun _ => fun
  | [d] => { results := [.lit (.bool true)], args := [d] }
  | _ => none }
def fnFoldCropRow : OpenClaim := { program := "ytjkaalcocgioaaa", sum := "580e6a6018b2d13f505b3073a53f95448a31364068464927ea4604867dfd1803", func := "loop.example/easel/laws.FnFoldCrop", spec := "fnFoldCrop", unfollowed := true, recurses := true, apart := false }
def FnFoldCropSaid : Prop := fnFoldCropRow.holds Try.pinned (OpenSpec.ofChange fnFoldCropSpec)

/-- ITS FALSE NEIGHBOUR: 'it returns false'. Refute it at one input. -/
def fnFoldCropWrong : ChangeSpec := { name := "fnFoldCrop", fn := fun _ => fun
  | [d] => { results := [.lit (.bool false)], args := [d] }
  | _ => none }
def FnFoldCropWrongFalsely : Prop := fnFoldCropRow.holds Try.pinned (OpenSpec.ofChange fnFoldCropWrong)

/-- 'laws.FnFoldNone': WHATEVER THE INPUT: true; the input reads as it did. -/
def fnFoldNoneSpec : ChangeSpec := { name := "fnFoldNone", fn := fun _ => fun
  | [d] => { results := [.lit (.bool true)], args := [d] }
  | _ => none }
def fnFoldNoneRow : OpenClaim := { program := "ytjkaalcocgioaaa", sum := "580e6a6018b2d13f505b3073a53f95448a31364068464927ea4604867dfd1803", func := "loop.example/easel/laws.FnFoldNone", spec := "fnFoldNone", unfollowed := true, recurses := true, apart := false }
def FnFoldNoneSaid : Prop := fnFoldNoneRow.holds Try.pinned (OpenSpec.ofChange fnFoldNoneSpec)

/-- ITS FALSE NEIGHBOUR: 'it returns false'. Refute it at one input. -/
def fnFoldNoneWrong : ChangeSpec := { name := "fnFoldNone", fn := fun _ => fun
  | [d] => { results := [.lit (.bool false)], args := [d] }
  | _ => none }
def FnFoldNoneWrongFalsely : Prop := fnFoldNoneRow.holds Try.pinned (OpenSpec.ofChange fnFoldNoneWrong)

/-- 'laws.FnFoldKeep': WHATEVER THE INPUT: true; the input reads as it did. -/
def fnFoldKeepSpec : ChangeSpec := { name := "fnFoldKeep", fn := fun _ => fun
  | [d] => { results := [.lit (.bool true)], args := [d] }
  | _ => none }
def fnFoldKeepRow : OpenClaim := { program := "ytjkaalcocgioaaa", sum := "580e6a6018b2d13f505b3073a53f95448a31364068464927ea4604867dfd1803", func := "loop.example/easel/laws.FnFoldKeep", spec := "fnFoldKeep", unfollowed := true, recurses := true, apart := false }
def FnFoldKeepSaid : Prop := fnFoldKeepRow.holds Try.pinned (OpenSpec.ofChange fnFoldKeepSpec)

/-- ITS FALSE NEIGHBOUR: 'it returns false'. Refute it at one input. -/
def fnFoldKeepWrong : ChangeSpec := { name := "fnFoldKeep", fn := fun _ => fun
  | [d] => { results := [.lit (.bool false)], args := [d] }
  | _ => none }
def FnFoldKeepWrongFalsely : Prop := fnFoldKeepRow.holds Try.pinned (OpenSpec.ofChange fnFoldKeepWrong)

/-- 'laws.FnFoldShort': WHATEVER THE INPUT: true; the input reads as it did. -/
def fnFoldShortSpec : ChangeSpec := { name := "fnFoldShort", fn := fun _ => fun
  | [d] => { results := [.lit (.bool true)], args := [d] }
  | _ => none }
def fnFoldShortRow : OpenClaim := { program := "ytjkaalcocgioaaa", sum := "580e6a6018b2d13f505b3073a53f95448a31364068464927ea4604867dfd1803", func := "loop.example/easel/laws.FnFoldShort", spec := "fnFoldShort", unfollowed := true, recurses := true, apart := false }
def FnFoldShortSaid : Prop := fnFoldShortRow.holds Try.pinned (OpenSpec.ofChange fnFoldShortSpec)

/-- ITS FALSE NEIGHBOUR: 'it returns false'. Refute it at one input. -/
def fnFoldShortWrong : ChangeSpec := { name := "fnFoldShort", fn := fun _ => fun
  | [d] => { results := [.lit (.bool false)], args := [d] }
  | _ => none }
def FnFoldShortWrongFalsely : Prop := fnFoldShortRow.holds Try.pinned (OpenSpec.ofChange fnFoldShortWrong)

/-- 'laws.FnExactOpsFold': WHATEVER THE INPUT: true; the input reads as it did. -/
def fnExactOpsFoldSpec : ChangeSpec := { name := "fnExactOpsFold", fn := fun _ => fun
  | [d] => { results := [.lit (.bool true)], args := [d] }
  | _ => none }
def fnExactOpsFoldRow : OpenClaim := { program := "ytjkaalcocgioaaa", sum := "580e6a6018b2d13f505b3073a53f95448a31364068464927ea4604867dfd1803", func := "loop.example/easel/laws.FnExactOpsFold", spec := "fnExactOpsFold", unfollowed := true, recurses := true, apart := false }
def FnExactOpsFoldSaid : Prop := fnExactOpsFoldRow.holds Try.pinned (OpenSpec.ofChange fnExactOpsFoldSpec)

/-- ITS FALSE NEIGHBOUR: 'it returns false'. Refute it at one input. -/
def fnExactOpsFoldWrong : ChangeSpec := { name := "fnExactOpsFold", fn := fun _ => fun
  | [d] => { results := [.lit (.bool false)], args := [d] }
  | _ => none }
def FnExactOpsFoldWrongFalsely : Prop := fnExactOpsFoldRow.holds Try.pinned (OpenSpec.ofChange fnExactOpsFoldWrong)

/- THE SECOND FORM. 'bulk': how many values and letters a reading holds, each counted each time it is reached (what is shared counts as often as it is met; a slice's spare places count too). A statement '..UptoSaid' is the law's where the arguments, and the package variables that the reading takes, are together of bulk at most 1048576: NARROWER than '..Said'. Prove '..Said' where nothing that the law and all that it calls make is longer than what came in: it says more and counts as full. Else prove '..UptoSaid'. A law counts once. -/
mutual
def uptoBulk {H : Type} : DataW H → Nat
  | .lit (.string bytes) => bytes.length + 1
  | .lit _ => 1
  | .nil => 1
  | .ptr d => uptoBulk d + 1
  | .slice elems spare => uptoBulkAll elems + uptoBulkAll spare + 1
  | .agg parts => uptoBulkAll parts + 1
  | .iface _ d => uptoBulk d + 1
  | .map entries => uptoBulkEntries entries + 1
  | .held _ => 1
def uptoBulkAll {H : Type} : List (DataW H) → Nat
  | [] => 0
  | d :: r => uptoBulk d + uptoBulkAll r
def uptoBulkEntries {H : Type} : List (Lit × DataW H) → Nat
  | [] => 0
  | x :: r => uptoBulkEntry x + uptoBulkEntries r
def uptoBulkEntry {H : Type} : Lit × DataW H → Nat
  | (.string bytes, d) => bytes.length + uptoBulk d + 1
  | (_, d) => uptoBulk d + 1
 end
def uptoSmall : (H : Type) → List (DataW H) → Bool := fun _ ds => decide (uptoBulkAll ds ≤ 1048576)
def OpenSpec.upto (s : _root_.Go.ChangeSpec) : _root_.Go.OpenSpec := { _root_.Go.OpenSpec.ofChange s with cond := some uptoSmall }

/-- 'laws.FnFoldCrop', WHERE WHAT IT READS IS OF BULK AT MOST 1048576: true; the input reads as it did. -/
def fnFoldCropUptoRow : OpenClaim := { program := "ytjkaalcocgioaaa", sum := "580e6a6018b2d13f505b3073a53f95448a31364068464927ea4604867dfd1803", func := "loop.example/easel/laws.FnFoldCrop", spec := "fnFoldCrop", unfollowed := true, recurses := true, apart := false, narrowed := true }
def FnFoldCropUptoSaid : Prop := fnFoldCropUptoRow.holds Try.pinned (OpenSpec.upto fnFoldCropSpec)

/-- 'laws.FnFoldNone', WHERE WHAT IT READS IS OF BULK AT MOST 1048576: true; the input reads as it did. -/
def fnFoldNoneUptoRow : OpenClaim := { program := "ytjkaalcocgioaaa", sum := "580e6a6018b2d13f505b3073a53f95448a31364068464927ea4604867dfd1803", func := "loop.example/easel/laws.FnFoldNone", spec := "fnFoldNone", unfollowed := true, recurses := true, apart := false, narrowed := true }
def FnFoldNoneUptoSaid : Prop := fnFoldNoneUptoRow.holds Try.pinned (OpenSpec.upto fnFoldNoneSpec)

/-- 'laws.FnFoldKeep', WHERE WHAT IT READS IS OF BULK AT MOST 1048576: true; the input reads as it did. -/
def fnFoldKeepUptoRow : OpenClaim := { program := "ytjkaalcocgioaaa", sum := "580e6a6018b2d13f505b3073a53f95448a31364068464927ea4604867dfd1803", func := "loop.example/easel/laws.FnFoldKeep", spec := "fnFoldKeep", unfollowed := true, recurses := true, apart := false, narrowed := true }
def FnFoldKeepUptoSaid : Prop := fnFoldKeepUptoRow.holds Try.pinned (OpenSpec.upto fnFoldKeepSpec)

/-- 'laws.FnFoldShort', WHERE WHAT IT READS IS OF BULK AT MOST 1048576: true; the input reads as it did. -/
def fnFoldShortUptoRow : OpenClaim := { program := "ytjkaalcocgioaaa", sum := "580e6a6018b2d13f505b3073a53f95448a31364068464927ea4604867dfd1803", func := "loop.example/easel/laws.FnFoldShort", spec := "fnFoldShort", unfollowed := true, recurses := true, apart := false, narrowed := true }
def FnFoldShortUptoSaid : Prop := fnFoldShortUptoRow.holds Try.pinned (OpenSpec.upto fnFoldShortSpec)

/-- 'laws.FnExactOpsFold', WHERE WHAT IT READS IS OF BULK AT MOST 1048576: true; the input reads as it did. -/
def fnExactOpsFoldUptoRow : OpenClaim := { program := "ytjkaalcocgioaaa", sum := "580e6a6018b2d13f505b3073a53f95448a31364068464927ea4604867dfd1803", func := "loop.example/easel/laws.FnExactOpsFold", spec := "fnExactOpsFold", unfollowed := true, recurses := true, apart := false, narrowed := true }
def FnExactOpsFoldUptoSaid : Prop := fnExactOpsFoldUptoRow.holds Try.pinned (OpenSpec.upto fnExactOpsFoldSpec)

end Rows
end Go.Proofs.Ytjkaalcocgioaaa
