/-
  How the parameters of FnExactGeoLine are read (every input that can be read as data), and the pure statement that its row is built on.
-/
import Derived.Test.YtklghegofjigoaaDoorOpens
import Derived.Test.YtklghegofjigoaaDoorQFnExactGeoLinex2
namespace Go.Proofs.YtklghegofjigoaaDoor.QFnExactGeoLine
open Go.RowKit Go.Proofs.YtklghegofjigoaaDoorW.PrintWords Go.Proofs.YtklghegofjigoaaDoor.Opens
set_option linter.unusedVariables false
/-- THE PURE STATEMENT of FnExactGeoLine. -/
def Stated : Prop := ∀ (a0_0 : Int) (a0_1 : Int) (a0_2 : Int) (a0_3 : Int), (Lit.int .i64 a0_0).wf = true → (Lit.int .i64 a0_1).wf = true → (Lit.int .i64 a0_2).wf = true → (Lit.int .i64 a0_3).wf = true → ∃ k, laws_FnExactGeoLine.f k a0_0 a0_1 a0_2 a0_3 = some true
end Go.Proofs.YtklghegofjigoaaDoor.QFnExactGeoLine
