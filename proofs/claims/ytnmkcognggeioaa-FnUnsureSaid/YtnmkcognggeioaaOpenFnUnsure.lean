/-
  How the parameters of FnUnsure are read (every input that can be read as data), and the pure statement that its row is built on.
-/
import Derived.Test.YtnmkcognggeioaaVOpens
import Derived.Test.YtnmkcognggeioaaQFnUnsurex14
namespace Go.Proofs.Ytnmkcognggeioaa.QFnUnsure
open Go.RowKit Go.Proofs.YtnmkcognggeioaaW.PrintWords Go.Proofs.Ytnmkcognggeioaa.Opens
set_option linter.unusedVariables false
/-- THE PURE STATEMENT of FnUnsure. -/
def Stated : Prop := ∀ (l0 : List (Int)), (l0.length * 1 ≤ 140737488351232 ∧ ∀ y ∈ l0, (Lit.int .u8 y).wf = true) → ∃ k, laws_FnUnsure.f k l0 = some true
end Go.Proofs.Ytnmkcognggeioaa.QFnUnsure
