/- Go functions as Lean functions, and their contracts. Own text: written by wip/gen/pr.py (a turned copy of the print). -/
import Derived.Test.YtklghegofjigoaaProg
import Derived.Below
import Derived.Deep.Draws
import Derived.Deep.AppendLies
import Derived.Maps.AppendAt
import Derived.OwnWalk
import Derived.Laws.BytesArg
import Derived.Laws.MakeOwn
import Derived.Laws.OwnMore
import Derived.Deep.OwnRows
import Derived.Tactics
import Derived.Lib.ConvBytes
import Derived.Laws.Slices
import Derived.WalkKit
import Derived.KernelRfl
import Derived.RowKit3
import Derived.Deep.LoopGhost
import Derived.Deep.QuietTactic
import Derived.BigQuiet
import Derived.WideLaws
import Derived.Deep.DeepCutAuto
import Derived.Deep.CutBlock
import Derived.Deep.RegionHeld3
import Derived.Laws.Rows
import Derived.Lib.AppendStr
import Derived.ArgAppend
import Derived.Laws.IdiomCopy
import Derived.OrdersHeld
import Derived.Laws.BitsLemmas
import Derived.RowKit
import Derived.Test.YtklghegofjigoaaShelfRep
import Derived.Test.YtklghegofjigoaaWWords
import Derived.Test.YtklghegofjigoaaWLast
import Derived.Test.YtklghegofjigoaaWTab
import Derived.Test.YtklghegofjigoaaWFour
import Derived.Test.YtklghegofjigoaaWQPut
import Derived.Test.YtklghegofjigoaaWApart
import Derived.Test.YtklghegofjigoaaWArr
import Derived.Test.YtklghegofjigoaaWZeros
import Derived.Test.YtklghegofjigoaaWFoot
import Derived.Test.YtklghegofjigoaaWKept
import Derived.Test.YtklghegofjigoaaWShare
import Derived.Test.YtklghegofjigoaaWN
import Derived.Test.YtklghegofjigoaaWFootNe
import Derived.Test.YtklghegofjigoaaWAt
import Derived.Test.YtklghegofjigoaaWEqStruct
import Derived.Test.YtklghegofjigoaaWRepsOne
import Derived.Test.YtklghegofjigoaaWInv
import Derived.Test.YtklghegofjigoaaWInvWords
import Derived.Test.YtklghegofjigoaaWGuard
import Derived.Test.YtklghegofjigoaaWNEv
import Derived.Test.YtklghegofjigoaaWMore
namespace Go.Proofs.Ytklghegofjigoaa.QFnExactReadAddress
open Go.RowKit Go.Proofs.YtklghegofjigoaaW.PrintWords Go.Proofs.YtklghegofjigoaaW.PrintLast Go.Proofs.YtklghegofjigoaaW.PrintMore
attribute [local go_sem] max2_int min2_int max_two min_two max_three min_three max_four min_four   -- for this text's walks alone
set_option linter.unusedVariables false
set_option linter.unusedSimpArgs false



def errW : Option Int → Value
  | none => .nilIface
  | some c => .iface 0 (.int .i64 c)
theorem errW_none : errW none = .nilIface := rfl
theorem errW_some (c : Int) : errW (some c) = .iface 0 (.int .i64 c) := rfl

theorem info5 : (Try.prog.info? 5).map (fun i => (i.zero, i.size, i.bytes)) = some (some (.int .u8 0), 1, 1) := by kernel_rfl
-- the values' own types

end Go.Proofs.Ytklghegofjigoaa.QFnExactReadAddress
