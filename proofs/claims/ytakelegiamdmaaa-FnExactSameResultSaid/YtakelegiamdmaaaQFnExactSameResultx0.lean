/- Go functions as Lean functions, and their contracts. Own text: written by wip/gen/pr.py (a turned copy of the print). -/
import Derived.Test.YtakelegiamdmaaaProg
import Derived.Below
import Derived.Deep.Draws
import Derived.Deep.AppendLies
import Derived.Maps.AppendAt
import Derived.OwnWalk
import Derived.Laws.BytesArg
import Derived.Laws.MakeOwn
import Derived.Laws.OwnMore
import Derived.Deep.OwnRows
import Derived.Tactics
import Derived.Lib.ConvBytes
import Derived.Laws.Slices
import Derived.WalkKit
import Derived.KernelRfl
import Derived.RowKit3
import Derived.Deep.LoopGhost
import Derived.Deep.QuietTactic
import Derived.BigQuiet
import Derived.WideLaws
import Derived.Deep.DeepCutAuto
import Derived.Deep.CutBlock
import Derived.Deep.RegionHeld3
import Derived.Laws.Rows
import Derived.Lib.AppendStr
import Derived.ArgAppend
import Derived.Laws.IdiomCopy
import Derived.OrdersHeld
import Derived.Laws.BitsLemmas
import Derived.RowKit
import Derived.Test.YtakelegiamdmaaaWWords
import Derived.Test.YtakelegiamdmaaaWLast
import Derived.Test.YtakelegiamdmaaaWTab
import Derived.Test.YtakelegiamdmaaaWFour
import Derived.Test.YtakelegiamdmaaaWQPut
import Derived.Test.YtakelegiamdmaaaWApart
import Derived.Test.YtakelegiamdmaaaWArr
import Derived.Test.YtakelegiamdmaaaWZeros
import Derived.Test.YtakelegiamdmaaaWFoot
import Derived.Test.YtakelegiamdmaaaWKept
import Derived.Test.YtakelegiamdmaaaWShare
import Derived.Test.YtakelegiamdmaaaWN
import Derived.Test.YtakelegiamdmaaaWFootNe
import Derived.Test.YtakelegiamdmaaaWAt
import Derived.Test.YtakelegiamdmaaaWEqStruct
import Derived.Test.YtakelegiamdmaaaWRepsOne
import Derived.Test.YtakelegiamdmaaaWInv
import Derived.Test.YtakelegiamdmaaaWInvWords
import Derived.Test.YtakelegiamdmaaaWGuard
import Derived.Test.YtakelegiamdmaaaWNEv
import Derived.Test.YtakelegiamdmaaaWMore
namespace Go.Proofs.Ytakelegiamdmaaa.QFnExactSameResult
open Go.RowKit Go.Proofs.YtakelegiamdmaaaW.PrintWords Go.Proofs.YtakelegiamdmaaaW.PrintLast Go.Proofs.YtakelegiamdmaaaW.PrintMore
attribute [local go_sem] max2_int min2_int max_two min_two max_three min_three max_four min_four   -- for this text's walks alone
set_option linter.unusedVariables false
set_option linter.unusedSimpArgs false



def errW : Option Int → Value
  | none => .nilIface
  | some c => .iface 0 (.int .i64 c)
theorem errW_none : errW none = .nilIface := rfl
theorem errW_some (c : Int) : errW (some c) = .iface 0 (.int .i64 c) := rfl

theorem info9 : (Try.prog.info? 9).map (fun i => (i.zero, i.size, i.bytes)) = some (some (.string ⟨#[]⟩), 1, 16) := by kernel_rfl
-- the values' own types

end Go.Proofs.Ytakelegiamdmaaa.QFnExactSameResult
