/-
  How the parameters of FnWoven are read (every input that can be read as data), and the pure statement that its row is built on.
-/
import Derived.Test.YtklghegofjigoaaOpens
import Derived.Test.YtklghegofjigoaaQFnWovenx6
namespace Go.Proofs.Ytklghegofjigoaa.QFnWoven
open Go.RowKit Go.Proofs.YtklghegofjigoaaW.PrintWords Go.Proofs.Ytklghegofjigoaa.Opens
set_option linter.unusedVariables false
/-- THE PURE STATEMENT of FnWoven. -/
def Stated : Prop := ∀ (l0 : List (Int)), (l0.length * 1 ≤ 140737488351232 ∧ ∀ y ∈ l0, (Lit.int .u8 y).wf = true) → ∃ k, laws_FnWoven.f k l0 = some true
end Go.Proofs.Ytklghegofjigoaa.QFnWoven
