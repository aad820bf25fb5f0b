/- Functions of the given program as plain Lean functions, and for each the proof that the machine's call comes to what its function says. No condition but what each theorem states. Written by a program of this session. -/
import Derived.Test.YtcoiglbkeebccaaProg
import Derived.Below
import Derived.Deep.Draws
import Derived.Deep.AppendLies
import Derived.Maps.AppendAt
import Derived.OwnWalk
import Derived.Laws.BytesArg
import Derived.Laws.MakeOwn
import Derived.Laws.OwnMore
import Derived.Deep.OwnRows
import Derived.Tactics
import Derived.Lib.ConvBytes
import Derived.Laws.Slices
import Derived.WalkKit
import Derived.KernelRfl
import Derived.RowKit3
import Derived.Deep.LoopGhost
import Derived.Deep.QuietTactic
import Derived.BigQuiet
import Derived.WideLaws
import Derived.Deep.DeepCutAuto
import Derived.Deep.CutBlock
import Derived.Deep.RegionHeld3
import Derived.Laws.Rows
import Derived.Lib.AppendStr
import Derived.ArgAppend
import Derived.Laws.IdiomCopy
import Derived.OrdersHeld
import Derived.Laws.BitsLemmas
import Derived.RowKit
import Derived.Test.YtcoiglbkeebccaaWWords
import Derived.Test.YtcoiglbkeebccaaWLast
import Derived.Test.YtcoiglbkeebccaaWTab
import Derived.Test.YtcoiglbkeebccaaWFour
import Derived.Test.YtcoiglbkeebccaaWQPut
import Derived.Test.YtcoiglbkeebccaaWApart
import Derived.Test.YtcoiglbkeebccaaWArr
import Derived.Test.YtcoiglbkeebccaaWZeros
import Derived.Test.YtcoiglbkeebccaaWFoot
import Derived.Test.YtcoiglbkeebccaaWKept
import Derived.Test.YtcoiglbkeebccaaWShare
import Derived.Test.YtcoiglbkeebccaaWN
import Derived.Test.YtcoiglbkeebccaaWFootNe
import Derived.Test.YtcoiglbkeebccaaWAt
import Derived.Test.YtcoiglbkeebccaaWEqStruct
import Derived.Test.YtcoiglbkeebccaaWRepsOne
import Derived.Test.YtcoiglbkeebccaaWInv
import Derived.Test.YtcoiglbkeebccaaWInvWords
import Derived.Test.YtcoiglbkeebccaaWGuard
import Derived.Test.YtcoiglbkeebccaaWNEv
import Derived.Test.YtcoiglbkeebccaaWMore
import Derived.Test.YtcoiglbkeebccaaHyb
namespace Go.Proofs.Ytcoiglbkeebccaa.X
open Go.RowKit Go.Proofs.YtcoiglbkeebccaaW.PrintWords Go.Proofs.YtcoiglbkeebccaaW.PrintLast Go.Proofs.YtcoiglbkeebccaaW.PrintMore
attribute [local go_sem] max2_int min2_int max_two min_two max_three min_three max_four min_four   -- for this text's walks alone
set_option linter.unusedVariables false
set_option linter.unusedSimpArgs false



def errW : Option Int → Value
  | none => .nilIface
  | some c => .iface 0 (.int .i64 c)
theorem errW_none : errW none = .nilIface := rfl
theorem errW_some (c : Int) : errW (some c) = .iface 0 (.int .i64 c) := rfl

theorem info5 : (Try.prog.info? 5).map (fun i => (i.zero, i.size, i.bytes)) = some (some (.int .u8 0), 1, 1) := by kernel_rfl
-- the values' own types

end Go.Proofs.Ytcoiglbkeebccaa.X
