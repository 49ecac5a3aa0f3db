/- Go functions as Lean functions, and their contracts. Own text: written by wip/gen/pr.py (a turned copy of the print). -/
import Derived.Test.YtklghegofjigoaaDoorProg
import Derived.Below
import Derived.Deep.Draws
import Derived.Deep.AppendLies
import Derived.Maps.AppendAt
import Derived.OwnWalk
import Derived.Laws.BytesArg
import Derived.Laws.MakeOwn
import Derived.Laws.OwnMore
import Derived.Deep.OwnRows
import Derived.Tactics
import Derived.Lib.ConvBytes
import Derived.Laws.Slices
import Derived.WalkKit
import Derived.KernelRfl
import Derived.RowKit3
import Derived.Deep.LoopGhost
import Derived.Deep.QuietTactic
import Derived.BigQuiet
import Derived.WideLaws
import Derived.Deep.DeepCutAuto
import Derived.Deep.CutBlock
import Derived.Deep.RegionHeld3
import Derived.Laws.Rows
import Derived.Lib.AppendStr
import Derived.ArgAppend
import Derived.Laws.IdiomCopy
import Derived.OrdersHeld
import Derived.Laws.BitsLemmas
import Derived.RowKit
import Derived.Test.YtklghegofjigoaaDoorShelfItoa
import Derived.Test.YtklghegofjigoaaDoorWWords
import Derived.Test.YtklghegofjigoaaDoorWLast
import Derived.Test.YtklghegofjigoaaDoorWTab
import Derived.Test.YtklghegofjigoaaDoorWFour
import Derived.Test.YtklghegofjigoaaDoorWQPut
import Derived.Test.YtklghegofjigoaaDoorWApart
import Derived.Test.YtklghegofjigoaaDoorWArr
import Derived.Test.YtklghegofjigoaaDoorWZeros
import Derived.Test.YtklghegofjigoaaDoorWFoot
import Derived.Test.YtklghegofjigoaaDoorWKept
import Derived.Test.YtklghegofjigoaaDoorWShare
import Derived.Test.YtklghegofjigoaaDoorWN
import Derived.Test.YtklghegofjigoaaDoorWFootNe
import Derived.Test.YtklghegofjigoaaDoorWAt
import Derived.Test.YtklghegofjigoaaDoorWEqStruct
import Derived.Test.YtklghegofjigoaaDoorWRepsOne
import Derived.Test.YtklghegofjigoaaDoorWInv
import Derived.Test.YtklghegofjigoaaDoorWInvWords
import Derived.Test.YtklghegofjigoaaDoorWGuard
import Derived.Test.YtklghegofjigoaaDoorWNEv
import Derived.Test.YtklghegofjigoaaDoorWMore
namespace Go.Proofs.YtklghegofjigoaaDoor.QFnExactGeoLine
open Go.RowKit Go.Proofs.YtklghegofjigoaaDoorW.PrintWords Go.Proofs.YtklghegofjigoaaDoorW.PrintLast Go.Proofs.YtklghegofjigoaaDoorW.PrintMore
attribute [local go_sem] max2_int min2_int max_two min_two max_three min_three max_four min_four   -- for this text's walks alone
set_option linter.unusedVariables false
set_option linter.unusedSimpArgs false



def errW : Option Int → Value
  | none => .nilIface
  | some c => .iface 0 (.int .i64 c)
theorem errW_none : errW none = .nilIface := rfl
theorem errW_some (c : Int) : errW (some c) = .iface 0 (.int .i64 c) := rfl

theorem info5 : (Tryd.prog.info? 5).map (fun i => (i.zero, i.size, i.bytes)) = some (some (.int .u8 0), 1, 1) := by kernel_rfl
-- the values' own types

end Go.Proofs.YtklghegofjigoaaDoor.QFnExactGeoLine
