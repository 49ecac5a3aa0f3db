/-
  How the parameters of FnExactMaskRec are read (every input that can be read as data), and the pure statement that its row is built on.
-/
import Derived.Test.YtklghegofjigoaaOpens
import Derived.Test.YtklghegofjigoaaQFnExactMaskRecx1
namespace Go.Proofs.Ytklghegofjigoaa.QFnExactMaskRec
open Go.RowKit Go.Proofs.YtklghegofjigoaaW.PrintWords Go.Proofs.Ytklghegofjigoaa.Opens
set_option linter.unusedVariables false
/-- THE PURE STATEMENT of FnExactMaskRec. -/
def Stated : Prop := ∀ (a0 : ByteArray), a0.size ≤ 140737488351232 → ∃ k, laws_FnExactMaskRec.f k a0 = some true
end Go.Proofs.Ytklghegofjigoaa.QFnExactMaskRec
