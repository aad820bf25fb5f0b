/- Functions of the given program as plain Lean functions, and for each the proof that the machine's call comes to what its function says. No condition but what each theorem states. Written by a program of this session. -/
import Derived.Test.YtcoiglbkeebccabProg
import Derived.Below
import Derived.Deep.Draws
import Derived.Deep.AppendLies
import Derived.Maps.AppendAt
import Derived.OwnWalk
import Derived.Laws.BytesArg
import Derived.Laws.MakeOwn
import Derived.Laws.OwnMore
import Derived.Deep.OwnRows
import Derived.Tactics
import Derived.Lib.ConvBytes
import Derived.Laws.Slices
import Derived.WalkKit
import Derived.KernelRfl
import Derived.RowKit3
import Derived.Deep.LoopGhost
import Derived.Deep.QuietTactic
import Derived.BigQuiet
import Derived.WideLaws
import Derived.Deep.DeepCutAuto
import Derived.Deep.CutBlock
import Derived.Deep.RegionHeld3
import Derived.Laws.Rows
import Derived.Lib.AppendStr
import Derived.ArgAppend
import Derived.Laws.IdiomCopy
import Derived.OrdersHeld
import Derived.Laws.BitsLemmas
import Derived.RowKit
import Derived.Test.YtcoiglbkeebccabWWords
import Derived.Test.YtcoiglbkeebccabWLast
import Derived.Test.YtcoiglbkeebccabWTab
import Derived.Test.YtcoiglbkeebccabWFour
import Derived.Test.YtcoiglbkeebccabWQPut
import Derived.Test.YtcoiglbkeebccabWApart
import Derived.Test.YtcoiglbkeebccabWArr
import Derived.Test.YtcoiglbkeebccabWZeros
import Derived.Test.YtcoiglbkeebccabWFoot
import Derived.Test.YtcoiglbkeebccabWKept
import Derived.Test.YtcoiglbkeebccabWShare
import Derived.Test.YtcoiglbkeebccabWN
import Derived.Test.YtcoiglbkeebccabWFootNe
import Derived.Test.YtcoiglbkeebccabWAt
import Derived.Test.YtcoiglbkeebccabWEqStruct
import Derived.Test.YtcoiglbkeebccabWRepsOne
import Derived.Test.YtcoiglbkeebccabWInv
import Derived.Test.YtcoiglbkeebccabWInvWords
import Derived.Test.YtcoiglbkeebccabWGuard
import Derived.Test.YtcoiglbkeebccabWNEv
import Derived.Test.YtcoiglbkeebccabWMore
import Derived.Test.YtcoiglbkeebccabHyb
namespace Go.Proofs.Ytcoiglbkeebccab.X
open Go.RowKit Go.Proofs.YtcoiglbkeebccabW.PrintWords Go.Proofs.YtcoiglbkeebccabW.PrintLast Go.Proofs.YtcoiglbkeebccabW.PrintMore
attribute [local go_sem] max2_int min2_int max_two min_two max_three min_three max_four min_four   -- for this text's walks alone
set_option linter.unusedVariables false
set_option linter.unusedSimpArgs false



def errW : Option Int → Value
  | none => .nilIface
  | some c => .iface 0 (.int .i64 c)
theorem errW_none : errW none = .nilIface := rfl
theorem errW_some (c : Int) : errW (some c) = .iface 0 (.int .i64 c) := rfl

theorem info3 : (Try.prog.info? 3).map (fun i => (i.zero, i.size, i.bytes)) = some (some (.int .i64 0), 1, 8) := by kernel_rfl
theorem info5 : (Try.prog.info? 5).map (fun i => (i.zero, i.size, i.bytes)) = some (some (.int .u8 0), 1, 1) := by kernel_rfl
-- the values' own types

end Go.Proofs.Ytcoiglbkeebccab.X
