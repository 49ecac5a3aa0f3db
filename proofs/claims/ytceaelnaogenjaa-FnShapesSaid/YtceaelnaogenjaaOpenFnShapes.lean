/-
  How the parameters of FnShapes are read (every input that can be read as data), and the pure statement that its row is built on.
-/
import Derived.Test.YtceaelnaogenjaaVOpens
import Derived.Test.YtceaelnaogenjaaQFnShapesx9
namespace Go.Proofs.Ytceaelnaogenjaa.QFnShapes
open Go.RowKit Go.Proofs.YtceaelnaogenjaaW.PrintWords Go.Proofs.Ytceaelnaogenjaa.Opens
set_option linter.unusedVariables false
/-- THE PURE STATEMENT of FnShapes. -/
def Stated : Prop := ∀ (l0 : List (Int)), (l0.length * 1 ≤ 140737488351232 ∧ ∀ y ∈ l0, (Lit.int .u8 y).wf = true) → ∃ k, laws_FnShapes.f k l0 = some true
end Go.Proofs.Ytceaelnaogenjaa.QFnShapes
