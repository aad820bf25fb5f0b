/-
  No cell of these rows narrows 'for every input' (looked for: loops, veiled, ifaces, maps, wideKeys, modest, calm, conditions, laid).
  DERIVED. THE GIVEN ROWS OF THIS SEAT. 15 by the template 'for every input the law returns true; each argument reads behind the call as it read before'; 0 by the template 'total and deterministic' (their statements: YthnmeogafklhnaaTotals.lean).
  GIVEN WITH THE SEED: the statements are not yours to turn. If you find one false, say at which input.
  Laid BY PROGRAM, IN A SANDBOX (cutbox-rows.mjs): the forced cells as the released guide's own fill.sh prints them over the translation 31726790fb0e46ad… (all of the seat's roots in one cut). By AI agents, Wed Nov 11 2026. No macro, syntax, notation, axiom, sorry.
-/
import Derived.Test.YthnmeogafklhnaaChecked
import GoSem.Claim
import GoSem.ClaimJoined
import GoSem.ClaimMapViews
import Derived.JoinedTies
import Derived.KernelRfl
namespace Go.Proofs.Ythnmeogafklhnaa
/- THE CELL 'sum', in the pinned program and in every row, IS THE sha256 OF THE DUMP (.gsa) THAT YthnmeogafklhnaaProg.lean LOADS. Nothing in Lean hashes anything: it is a label: what it is worth is what the hold of that sum in a sandbox is worth. -/
noncomputable def Try.pinned : Pinned := { name := "ythnmeogafklhnaa", sum := "31726790fb0e46ad341555c30b01399f0210a13466e7f62dd9c41c0d5e63b2a8", checked := Try.checked }
namespace Rows
def none {H : Type} : Left H := { results := [], args := [] }

/-- 'laws.FnOpDo': WHATEVER THE INPUT: true; the input reads as it did. -/
def fnOpDoSpec : ChangeSpec := { name := "fnOpDo", fn := fun _ => fun
  | [d] => { results := [.lit (.bool true)], args := [d] }
  | _ => none }
def fnOpDoRow : OpenClaim := { program := "ythnmeogafklhnaa", sum := "31726790fb0e46ad341555c30b01399f0210a13466e7f62dd9c41c0d5e63b2a8", func := "loop.example/easel/laws.FnOpDo", spec := "fnOpDo", unfollowed := true, recurses := true, apart := false }
def FnOpDoSaid : Prop := fnOpDoRow.holds Try.pinned (OpenSpec.ofChange fnOpDoSpec)

/-- ITS FALSE NEIGHBOUR: 'it returns false'. Refute it at one input. -/
def fnOpDoWrong : ChangeSpec := { name := "fnOpDo", fn := fun _ => fun
  | [d] => { results := [.lit (.bool false)], args := [d] }
  | _ => none }
def FnOpDoWrongFalsely : Prop := fnOpDoRow.holds Try.pinned (OpenSpec.ofChange fnOpDoWrong)

/-- 'laws.FnOpMoves': WHATEVER THE INPUT: true; the input reads as it did. -/
def fnOpMovesSpec : ChangeSpec := { name := "fnOpMoves", fn := fun _ => fun
  | [d] => { results := [.lit (.bool true)], args := [d] }
  | _ => none }
def fnOpMovesRow : OpenClaim := { program := "ythnmeogafklhnaa", sum := "31726790fb0e46ad341555c30b01399f0210a13466e7f62dd9c41c0d5e63b2a8", func := "loop.example/easel/laws.FnOpMoves", spec := "fnOpMoves", unfollowed := true, recurses := true, apart := false }
def FnOpMovesSaid : Prop := fnOpMovesRow.holds Try.pinned (OpenSpec.ofChange fnOpMovesSpec)

/-- ITS FALSE NEIGHBOUR: 'it returns false'. Refute it at one input. -/
def fnOpMovesWrong : ChangeSpec := { name := "fnOpMoves", fn := fun _ => fun
  | [d] => { results := [.lit (.bool false)], args := [d] }
  | _ => none }
def FnOpMovesWrongFalsely : Prop := fnOpMovesRow.holds Try.pinned (OpenSpec.ofChange fnOpMovesWrong)

/-- 'laws.FnOpBlur': WHATEVER THE INPUT: true; the input reads as it did. -/
def fnOpBlurSpec : ChangeSpec := { name := "fnOpBlur", fn := fun _ => fun
  | [d] => { results := [.lit (.bool true)], args := [d] }
  | _ => none }
def fnOpBlurRow : OpenClaim := { program := "ythnmeogafklhnaa", sum := "31726790fb0e46ad341555c30b01399f0210a13466e7f62dd9c41c0d5e63b2a8", func := "loop.example/easel/laws.FnOpBlur", spec := "fnOpBlur", unfollowed := true, recurses := true, apart := false }
def FnOpBlurSaid : Prop := fnOpBlurRow.holds Try.pinned (OpenSpec.ofChange fnOpBlurSpec)

/-- ITS FALSE NEIGHBOUR: 'it returns false'. Refute it at one input. -/
def fnOpBlurWrong : ChangeSpec := { name := "fnOpBlur", fn := fun _ => fun
  | [d] => { results := [.lit (.bool false)], args := [d] }
  | _ => none }
def FnOpBlurWrongFalsely : Prop := fnOpBlurRow.holds Try.pinned (OpenSpec.ofChange fnOpBlurWrong)

/-- 'laws.FnOpBlurIn': WHATEVER THE INPUT: true; the input reads as it did. -/
def fnOpBlurInSpec : ChangeSpec := { name := "fnOpBlurIn", fn := fun _ => fun
  | [d] => { results := [.lit (.bool true)], args := [d] }
  | _ => none }
def fnOpBlurInRow : OpenClaim := { program := "ythnmeogafklhnaa", sum := "31726790fb0e46ad341555c30b01399f0210a13466e7f62dd9c41c0d5e63b2a8", func := "loop.example/easel/laws.FnOpBlurIn", spec := "fnOpBlurIn", unfollowed := true, recurses := true, apart := false }
def FnOpBlurInSaid : Prop := fnOpBlurInRow.holds Try.pinned (OpenSpec.ofChange fnOpBlurInSpec)

/-- ITS FALSE NEIGHBOUR: 'it returns false'. Refute it at one input. -/
def fnOpBlurInWrong : ChangeSpec := { name := "fnOpBlurIn", fn := fun _ => fun
  | [d] => { results := [.lit (.bool false)], args := [d] }
  | _ => none }
def FnOpBlurInWrongFalsely : Prop := fnOpBlurInRow.holds Try.pinned (OpenSpec.ofChange fnOpBlurInWrong)

/-- 'laws.FnOpCropFlip': WHATEVER THE INPUT: true; the input reads as it did. -/
def fnOpCropFlipSpec : ChangeSpec := { name := "fnOpCropFlip", fn := fun _ => fun
  | [d1, d2] => { results := [.lit (.bool true)], args := [d1, d2] }
  | _ => none }
def fnOpCropFlipRow : OpenClaim := { program := "ythnmeogafklhnaa", sum := "31726790fb0e46ad341555c30b01399f0210a13466e7f62dd9c41c0d5e63b2a8", func := "loop.example/easel/laws.FnOpCropFlip", spec := "fnOpCropFlip", unfollowed := true, recurses := true, apart := false }
def FnOpCropFlipSaid : Prop := fnOpCropFlipRow.holds Try.pinned (OpenSpec.ofChange fnOpCropFlipSpec)

/-- ITS FALSE NEIGHBOUR: 'it returns false'. Refute it at one input. -/
def fnOpCropFlipWrong : ChangeSpec := { name := "fnOpCropFlip", fn := fun _ => fun
  | [d1, d2] => { results := [.lit (.bool false)], args := [d1, d2] }
  | _ => none }
def FnOpCropFlipWrongFalsely : Prop := fnOpCropFlipRow.holds Try.pinned (OpenSpec.ofChange fnOpCropFlipWrong)

/-- 'laws.FnOpGray': WHATEVER THE INPUT: true; the input reads as it did. -/
def fnOpGraySpec : ChangeSpec := { name := "fnOpGray", fn := fun _ => fun
  | [d] => { results := [.lit (.bool true)], args := [d] }
  | _ => none }
def fnOpGrayRow : OpenClaim := { program := "ythnmeogafklhnaa", sum := "31726790fb0e46ad341555c30b01399f0210a13466e7f62dd9c41c0d5e63b2a8", func := "loop.example/easel/laws.FnOpGray", spec := "fnOpGray", unfollowed := true, recurses := true, apart := false }
def FnOpGraySaid : Prop := fnOpGrayRow.holds Try.pinned (OpenSpec.ofChange fnOpGraySpec)

/-- ITS FALSE NEIGHBOUR: 'it returns false'. Refute it at one input. -/
def fnOpGrayWrong : ChangeSpec := { name := "fnOpGray", fn := fun _ => fun
  | [d] => { results := [.lit (.bool false)], args := [d] }
  | _ => none }
def FnOpGrayWrongFalsely : Prop := fnOpGrayRow.holds Try.pinned (OpenSpec.ofChange fnOpGrayWrong)

/-- 'laws.FnOpGroup': WHATEVER THE INPUT: true; the input reads as it did. -/
def fnOpGroupSpec : ChangeSpec := { name := "fnOpGroup", fn := fun _ => fun
  | [d] => { results := [.lit (.bool true)], args := [d] }
  | _ => none }
def fnOpGroupRow : OpenClaim := { program := "ythnmeogafklhnaa", sum := "31726790fb0e46ad341555c30b01399f0210a13466e7f62dd9c41c0d5e63b2a8", func := "loop.example/easel/laws.FnOpGroup", spec := "fnOpGroup", unfollowed := true, recurses := true, apart := false }
def FnOpGroupSaid : Prop := fnOpGroupRow.holds Try.pinned (OpenSpec.ofChange fnOpGroupSpec)

/-- ITS FALSE NEIGHBOUR: 'it returns false'. Refute it at one input. -/
def fnOpGroupWrong : ChangeSpec := { name := "fnOpGroup", fn := fun _ => fun
  | [d] => { results := [.lit (.bool false)], args := [d] }
  | _ => none }
def FnOpGroupWrongFalsely : Prop := fnOpGroupRow.holds Try.pinned (OpenSpec.ofChange fnOpGroupWrong)

/-- 'laws.FnOpSizeBoth': WHATEVER THE INPUT: true; the input reads as it did. -/
def fnOpSizeBothSpec : ChangeSpec := { name := "fnOpSizeBoth", fn := fun _ => fun
  | [d1, d2] => { results := [.lit (.bool true)], args := [d1, d2] }
  | _ => none }
def fnOpSizeBothRow : OpenClaim := { program := "ythnmeogafklhnaa", sum := "31726790fb0e46ad341555c30b01399f0210a13466e7f62dd9c41c0d5e63b2a8", func := "loop.example/easel/laws.FnOpSizeBoth", spec := "fnOpSizeBoth", unfollowed := true, recurses := true, apart := false }
def FnOpSizeBothSaid : Prop := fnOpSizeBothRow.holds Try.pinned (OpenSpec.ofChange fnOpSizeBothSpec)

/-- ITS FALSE NEIGHBOUR: 'it returns false'. Refute it at one input. -/
def fnOpSizeBothWrong : ChangeSpec := { name := "fnOpSizeBoth", fn := fun _ => fun
  | [d1, d2] => { results := [.lit (.bool false)], args := [d1, d2] }
  | _ => none }
def FnOpSizeBothWrongFalsely : Prop := fnOpSizeBothRow.holds Try.pinned (OpenSpec.ofChange fnOpSizeBothWrong)

/-- 'laws.FnOpCrop': WHATEVER THE INPUT: true; the input reads as it did. -/
def fnOpCropSpec : ChangeSpec := { name := "fnOpCrop", fn := fun _ => fun
  | [d1, d2] => { results := [.lit (.bool true)], args := [d1, d2] }
  | _ => none }
def fnOpCropRow : OpenClaim := { program := "ythnmeogafklhnaa", sum := "31726790fb0e46ad341555c30b01399f0210a13466e7f62dd9c41c0d5e63b2a8", func := "loop.example/easel/laws.FnOpCrop", spec := "fnOpCrop", unfollowed := true, recurses := true, apart := false }
def FnOpCropSaid : Prop := fnOpCropRow.holds Try.pinned (OpenSpec.ofChange fnOpCropSpec)

/-- ITS FALSE NEIGHBOUR: 'it returns false'. Refute it at one input. -/
def fnOpCropWrong : ChangeSpec := { name := "fnOpCrop", fn := fun _ => fun
  | [d1, d2] => { results := [.lit (.bool false)], args := [d1, d2] }
  | _ => none }
def FnOpCropWrongFalsely : Prop := fnOpCropRow.holds Try.pinned (OpenSpec.ofChange fnOpCropWrong)

/-- 'laws.FnOpFlip': WHATEVER THE INPUT: true; the input reads as it did. -/
def fnOpFlipSpec : ChangeSpec := { name := "fnOpFlip", fn := fun _ => fun
  | [d] => { results := [.lit (.bool true)], args := [d] }
  | _ => none }
def fnOpFlipRow : OpenClaim := { program := "ythnmeogafklhnaa", sum := "31726790fb0e46ad341555c30b01399f0210a13466e7f62dd9c41c0d5e63b2a8", func := "loop.example/easel/laws.FnOpFlip", spec := "fnOpFlip", unfollowed := true, recurses := true, apart := false }
def FnOpFlipSaid : Prop := fnOpFlipRow.holds Try.pinned (OpenSpec.ofChange fnOpFlipSpec)

/-- ITS FALSE NEIGHBOUR: 'it returns false'. Refute it at one input. -/
def fnOpFlipWrong : ChangeSpec := { name := "fnOpFlip", fn := fun _ => fun
  | [d] => { results := [.lit (.bool false)], args := [d] }
  | _ => none }
def FnOpFlipWrongFalsely : Prop := fnOpFlipRow.holds Try.pinned (OpenSpec.ofChange fnOpFlipWrong)

/-- 'laws.FnOpSizeTwice': WHATEVER THE INPUT: true; the input reads as it did. -/
def fnOpSizeTwiceSpec : ChangeSpec := { name := "fnOpSizeTwice", fn := fun _ => fun
  | [d1, d2] => { results := [.lit (.bool true)], args := [d1, d2] }
  | _ => none }
def fnOpSizeTwiceRow : OpenClaim := { program := "ythnmeogafklhnaa", sum := "31726790fb0e46ad341555c30b01399f0210a13466e7f62dd9c41c0d5e63b2a8", func := "loop.example/easel/laws.FnOpSizeTwice", spec := "fnOpSizeTwice", unfollowed := true, recurses := true, apart := false }
def FnOpSizeTwiceSaid : Prop := fnOpSizeTwiceRow.holds Try.pinned (OpenSpec.ofChange fnOpSizeTwiceSpec)

/-- ITS FALSE NEIGHBOUR: 'it returns false'. Refute it at one input. -/
def fnOpSizeTwiceWrong : ChangeSpec := { name := "fnOpSizeTwice", fn := fun _ => fun
  | [d1, d2] => { results := [.lit (.bool false)], args := [d1, d2] }
  | _ => none }
def FnOpSizeTwiceWrongFalsely : Prop := fnOpSizeTwiceRow.holds Try.pinned (OpenSpec.ofChange fnOpSizeTwiceWrong)

/-- 'laws.FnOpSizeUp': WHATEVER THE INPUT: true; the input reads as it did. -/
def fnOpSizeUpSpec : ChangeSpec := { name := "fnOpSizeUp", fn := fun _ => fun
  | [d] => { results := [.lit (.bool true)], args := [d] }
  | _ => none }
def fnOpSizeUpRow : OpenClaim := { program := "ythnmeogafklhnaa", sum := "31726790fb0e46ad341555c30b01399f0210a13466e7f62dd9c41c0d5e63b2a8", func := "loop.example/easel/laws.FnOpSizeUp", spec := "fnOpSizeUp", unfollowed := true, recurses := true, apart := false }
def FnOpSizeUpSaid : Prop := fnOpSizeUpRow.holds Try.pinned (OpenSpec.ofChange fnOpSizeUpSpec)

/-- ITS FALSE NEIGHBOUR: 'it returns false'. Refute it at one input. -/
def fnOpSizeUpWrong : ChangeSpec := { name := "fnOpSizeUp", fn := fun _ => fun
  | [d] => { results := [.lit (.bool false)], args := [d] }
  | _ => none }
def FnOpSizeUpWrongFalsely : Prop := fnOpSizeUpRow.holds Try.pinned (OpenSpec.ofChange fnOpSizeUpWrong)

/-- 'laws.FnOpFlat': WHATEVER THE INPUT: true; the input reads as it did. -/
def fnOpFlatSpec : ChangeSpec := { name := "fnOpFlat", fn := fun _ => fun
  | [d] => { results := [.lit (.bool true)], args := [d] }
  | _ => none }
def fnOpFlatRow : OpenClaim := { program := "ythnmeogafklhnaa", sum := "31726790fb0e46ad341555c30b01399f0210a13466e7f62dd9c41c0d5e63b2a8", func := "loop.example/easel/laws.FnOpFlat", spec := "fnOpFlat", unfollowed := true, recurses := true, apart := false }
def FnOpFlatSaid : Prop := fnOpFlatRow.holds Try.pinned (OpenSpec.ofChange fnOpFlatSpec)

/-- ITS FALSE NEIGHBOUR: 'it returns false'. Refute it at one input. -/
def fnOpFlatWrong : ChangeSpec := { name := "fnOpFlat", fn := fun _ => fun
  | [d] => { results := [.lit (.bool false)], args := [d] }
  | _ => none }
def FnOpFlatWrongFalsely : Prop := fnOpFlatRow.holds Try.pinned (OpenSpec.ofChange fnOpFlatWrong)

/-- 'laws.FnExactRasRead': WHATEVER THE INPUT: true; the input reads as it did. -/
def fnExactRasReadSpec : ChangeSpec := { name := "fnExactRasRead", fn := fun _ => fun
  | [d] => { results := [.lit (.bool true)], args := [d] }
  | _ => none }
def fnExactRasReadRow : OpenClaim := { program := "ythnmeogafklhnaa", sum := "31726790fb0e46ad341555c30b01399f0210a13466e7f62dd9c41c0d5e63b2a8", func := "loop.example/easel/laws.FnExactRasRead", spec := "fnExactRasRead", unfollowed := true, recurses := true, apart := false }
def FnExactRasReadSaid : Prop := fnExactRasReadRow.holds Try.pinned (OpenSpec.ofChange fnExactRasReadSpec)

/-- ITS FALSE NEIGHBOUR: 'it returns false'. Refute it at one input. -/
def fnExactRasReadWrong : ChangeSpec := { name := "fnExactRasRead", fn := fun _ => fun
  | [d] => { results := [.lit (.bool false)], args := [d] }
  | _ => none }
def FnExactRasReadWrongFalsely : Prop := fnExactRasReadRow.holds Try.pinned (OpenSpec.ofChange fnExactRasReadWrong)

/-- 'laws.FnRasBytes': WHATEVER THE INPUT: true; the input reads as it did. -/
def fnRasBytesSpec : ChangeSpec := { name := "fnRasBytes", fn := fun _ => fun
  | [d1, d2] => { results := [.lit (.bool true)], args := [d1, d2] }
  | _ => none }
def fnRasBytesRow : OpenClaim := { program := "ythnmeogafklhnaa", sum := "31726790fb0e46ad341555c30b01399f0210a13466e7f62dd9c41c0d5e63b2a8", func := "loop.example/easel/laws.FnRasBytes", spec := "fnRasBytes", unfollowed := true, recurses := true, apart := false }
def FnRasBytesSaid : Prop := fnRasBytesRow.holds Try.pinned (OpenSpec.ofChange fnRasBytesSpec)

/-- ITS FALSE NEIGHBOUR: 'it returns false'. Refute it at one input. -/
def fnRasBytesWrong : ChangeSpec := { name := "fnRasBytes", fn := fun _ => fun
  | [d1, d2] => { results := [.lit (.bool false)], args := [d1, d2] }
  | _ => none }
def FnRasBytesWrongFalsely : Prop := fnRasBytesRow.holds Try.pinned (OpenSpec.ofChange fnRasBytesWrong)

/- THE SECOND FORM. 'bulk': how many values and letters a reading holds, each counted each time it is reached (what is shared counts as often as it is met; a slice's spare places count too). A statement '..UptoSaid' is the law's where the arguments, and the package variables that the reading takes, are together of bulk at most 1048576: NARROWER than '..Said'. Prove '..Said' where nothing that the law and all that it calls make is longer than what came in: it says more and counts as full. Else prove '..UptoSaid'. A law counts once. -/
mutual
def uptoBulk {H : Type} : DataW H → Nat
  | .lit (.string bytes) => bytes.length + 1
  | .lit _ => 1
  | .nil => 1
  | .ptr d => uptoBulk d + 1
  | .slice elems spare => uptoBulkAll elems + uptoBulkAll spare + 1
  | .agg parts => uptoBulkAll parts + 1
  | .iface _ d => uptoBulk d + 1
  | .map entries => uptoBulkEntries entries + 1
  | .held _ => 1
def uptoBulkAll {H : Type} : List (DataW H) → Nat
  | [] => 0
  | d :: r => uptoBulk d + uptoBulkAll r
def uptoBulkEntries {H : Type} : List (Lit × DataW H) → Nat
  | [] => 0
  | x :: r => uptoBulkEntry x + uptoBulkEntries r
def uptoBulkEntry {H : Type} : Lit × DataW H → Nat
  | (.string bytes, d) => bytes.length + uptoBulk d + 1
  | (_, d) => uptoBulk d + 1
 end
def uptoSmall : (H : Type) → List (DataW H) → Bool := fun _ ds => decide (uptoBulkAll ds ≤ 1048576)
def OpenSpec.upto (s : _root_.Go.ChangeSpec) : _root_.Go.OpenSpec := { _root_.Go.OpenSpec.ofChange s with cond := some uptoSmall }

/-- 'laws.FnOpDo', WHERE WHAT IT READS IS OF BULK AT MOST 1048576: true; the input reads as it did. -/
def fnOpDoUptoRow : OpenClaim := { program := "ythnmeogafklhnaa", sum := "31726790fb0e46ad341555c30b01399f0210a13466e7f62dd9c41c0d5e63b2a8", func := "loop.example/easel/laws.FnOpDo", spec := "fnOpDo", unfollowed := true, recurses := true, apart := false, narrowed := true }
def FnOpDoUptoSaid : Prop := fnOpDoUptoRow.holds Try.pinned (OpenSpec.upto fnOpDoSpec)

/-- 'laws.FnOpMoves', WHERE WHAT IT READS IS OF BULK AT MOST 1048576: true; the input reads as it did. -/
def fnOpMovesUptoRow : OpenClaim := { program := "ythnmeogafklhnaa", sum := "31726790fb0e46ad341555c30b01399f0210a13466e7f62dd9c41c0d5e63b2a8", func := "loop.example/easel/laws.FnOpMoves", spec := "fnOpMoves", unfollowed := true, recurses := true, apart := false, narrowed := true }
def FnOpMovesUptoSaid : Prop := fnOpMovesUptoRow.holds Try.pinned (OpenSpec.upto fnOpMovesSpec)

/-- 'laws.FnOpBlur', WHERE WHAT IT READS IS OF BULK AT MOST 1048576: true; the input reads as it did. -/
def fnOpBlurUptoRow : OpenClaim := { program := "ythnmeogafklhnaa", sum := "31726790fb0e46ad341555c30b01399f0210a13466e7f62dd9c41c0d5e63b2a8", func := "loop.example/easel/laws.FnOpBlur", spec := "fnOpBlur", unfollowed := true, recurses := true, apart := false, narrowed := true }
def FnOpBlurUptoSaid : Prop := fnOpBlurUptoRow.holds Try.pinned (OpenSpec.upto fnOpBlurSpec)

/-- 'laws.FnOpBlurIn', WHERE WHAT IT READS IS OF BULK AT MOST 1048576: true; the input reads as it did. -/
def fnOpBlurInUptoRow : OpenClaim := { program := "ythnmeogafklhnaa", sum := "31726790fb0e46ad341555c30b01399f0210a13466e7f62dd9c41c0d5e63b2a8", func := "loop.example/easel/laws.FnOpBlurIn", spec := "fnOpBlurIn", unfollowed := true, recurses := true, apart := false, narrowed := true }
def FnOpBlurInUptoSaid : Prop := fnOpBlurInUptoRow.holds Try.pinned (OpenSpec.upto fnOpBlurInSpec)

/-- 'laws.FnOpCropFlip', WHERE WHAT IT READS IS OF BULK AT MOST 1048576: true; the input reads as it did. -/
def fnOpCropFlipUptoRow : OpenClaim := { program := "ythnmeogafklhnaa", sum := "31726790fb0e46ad341555c30b01399f0210a13466e7f62dd9c41c0d5e63b2a8", func := "loop.example/easel/laws.FnOpCropFlip", spec := "fnOpCropFlip", unfollowed := true, recurses := true, apart := false, narrowed := true }
def FnOpCropFlipUptoSaid : Prop := fnOpCropFlipUptoRow.holds Try.pinned (OpenSpec.upto fnOpCropFlipSpec)

/-- 'laws.FnOpGray', WHERE WHAT IT READS IS OF BULK AT MOST 1048576: true; the input reads as it did. -/
def fnOpGrayUptoRow : OpenClaim := { program := "ythnmeogafklhnaa", sum := "31726790fb0e46ad341555c30b01399f0210a13466e7f62dd9c41c0d5e63b2a8", func := "loop.example/easel/laws.FnOpGray", spec := "fnOpGray", unfollowed := true, recurses := true, apart := false, narrowed := true }
def FnOpGrayUptoSaid : Prop := fnOpGrayUptoRow.holds Try.pinned (OpenSpec.upto fnOpGraySpec)

/-- 'laws.FnOpGroup', WHERE WHAT IT READS IS OF BULK AT MOST 1048576: true; the input reads as it did. -/
def fnOpGroupUptoRow : OpenClaim := { program := "ythnmeogafklhnaa", sum := "31726790fb0e46ad341555c30b01399f0210a13466e7f62dd9c41c0d5e63b2a8", func := "loop.example/easel/laws.FnOpGroup", spec := "fnOpGroup", unfollowed := true, recurses := true, apart := false, narrowed := true }
def FnOpGroupUptoSaid : Prop := fnOpGroupUptoRow.holds Try.pinned (OpenSpec.upto fnOpGroupSpec)

/-- 'laws.FnOpSizeBoth', WHERE WHAT IT READS IS OF BULK AT MOST 1048576: true; the input reads as it did. -/
def fnOpSizeBothUptoRow : OpenClaim := { program := "ythnmeogafklhnaa", sum := "31726790fb0e46ad341555c30b01399f0210a13466e7f62dd9c41c0d5e63b2a8", func := "loop.example/easel/laws.FnOpSizeBoth", spec := "fnOpSizeBoth", unfollowed := true, recurses := true, apart := false, narrowed := true }
def FnOpSizeBothUptoSaid : Prop := fnOpSizeBothUptoRow.holds Try.pinned (OpenSpec.upto fnOpSizeBothSpec)

/-- 'laws.FnOpCrop', WHERE WHAT IT READS IS OF BULK AT MOST 1048576: true; the input reads as it did. -/
def fnOpCropUptoRow : OpenClaim := { program := "ythnmeogafklhnaa", sum := "31726790fb0e46ad341555c30b01399f0210a13466e7f62dd9c41c0d5e63b2a8", func := "loop.example/easel/laws.FnOpCrop", spec := "fnOpCrop", unfollowed := true, recurses := true, apart := false, narrowed := true }
def FnOpCropUptoSaid : Prop := fnOpCropUptoRow.holds Try.pinned (OpenSpec.upto fnOpCropSpec)

/-- 'laws.FnOpFlip', WHERE WHAT IT READS IS OF BULK AT MOST 1048576: true; the input reads as it did. -/
def fnOpFlipUptoRow : OpenClaim := { program := "ythnmeogafklhnaa", sum := "31726790fb0e46ad341555c30b01399f0210a13466e7f62dd9c41c0d5e63b2a8", func := "loop.example/easel/laws.FnOpFlip", spec := "fnOpFlip", unfollowed := true, recurses := true, apart := false, narrowed := true }
def FnOpFlipUptoSaid : Prop := fnOpFlipUptoRow.holds Try.pinned (OpenSpec.upto fnOpFlipSpec)

/-- 'laws.FnOpSizeTwice', WHERE WHAT IT READS IS OF BULK AT MOST 1048576: true; the input reads as it did. -/
def fnOpSizeTwiceUptoRow : OpenClaim := { program := "ythnmeogafklhnaa", sum := "31726790fb0e46ad341555c30b01399f0210a13466e7f62dd9c41c0d5e63b2a8", func := "loop.example/easel/laws.FnOpSizeTwice", spec := "fnOpSizeTwice", unfollowed := true, recurses := true, apart := false, narrowed := true }
def FnOpSizeTwiceUptoSaid : Prop := fnOpSizeTwiceUptoRow.holds Try.pinned (OpenSpec.upto fnOpSizeTwiceSpec)

/-- 'laws.FnOpSizeUp', WHERE WHAT IT READS IS OF BULK AT MOST 1048576: true; the input reads as it did. -/
def fnOpSizeUpUptoRow : OpenClaim := { program := "ythnmeogafklhnaa", sum := "31726790fb0e46ad341555c30b01399f0210a13466e7f62dd9c41c0d5e63b2a8", func := "loop.example/easel/laws.FnOpSizeUp", spec := "fnOpSizeUp", unfollowed := true, recurses := true, apart := false, narrowed := true }
def FnOpSizeUpUptoSaid : Prop := fnOpSizeUpUptoRow.holds Try.pinned (OpenSpec.upto fnOpSizeUpSpec)

/-- 'laws.FnOpFlat', WHERE WHAT IT READS IS OF BULK AT MOST 1048576: true; the input reads as it did. -/
def fnOpFlatUptoRow : OpenClaim := { program := "ythnmeogafklhnaa", sum := "31726790fb0e46ad341555c30b01399f0210a13466e7f62dd9c41c0d5e63b2a8", func := "loop.example/easel/laws.FnOpFlat", spec := "fnOpFlat", unfollowed := true, recurses := true, apart := false, narrowed := true }
def FnOpFlatUptoSaid : Prop := fnOpFlatUptoRow.holds Try.pinned (OpenSpec.upto fnOpFlatSpec)

/-- 'laws.FnExactRasRead', WHERE WHAT IT READS IS OF BULK AT MOST 1048576: true; the input reads as it did. -/
def fnExactRasReadUptoRow : OpenClaim := { program := "ythnmeogafklhnaa", sum := "31726790fb0e46ad341555c30b01399f0210a13466e7f62dd9c41c0d5e63b2a8", func := "loop.example/easel/laws.FnExactRasRead", spec := "fnExactRasRead", unfollowed := true, recurses := true, apart := false, narrowed := true }
def FnExactRasReadUptoSaid : Prop := fnExactRasReadUptoRow.holds Try.pinned (OpenSpec.upto fnExactRasReadSpec)

/-- 'laws.FnRasBytes', WHERE WHAT IT READS IS OF BULK AT MOST 1048576: true; the input reads as it did. -/
def fnRasBytesUptoRow : OpenClaim := { program := "ythnmeogafklhnaa", sum := "31726790fb0e46ad341555c30b01399f0210a13466e7f62dd9c41c0d5e63b2a8", func := "loop.example/easel/laws.FnRasBytes", spec := "fnRasBytes", unfollowed := true, recurses := true, apart := false, narrowed := true }
def FnRasBytesUptoSaid : Prop := fnRasBytesUptoRow.holds Try.pinned (OpenSpec.upto fnRasBytesSpec)

end Rows
end Go.Proofs.Ythnmeogafklhnaa
