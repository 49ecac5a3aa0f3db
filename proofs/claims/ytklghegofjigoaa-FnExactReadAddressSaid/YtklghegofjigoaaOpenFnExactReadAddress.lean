/-
  How the parameters of FnExactReadAddress are read (every input that can be read as data), and the pure statement that its row is built on.
-/
import Derived.Test.YtklghegofjigoaaOpens
import Derived.Test.YtklghegofjigoaaQFnExactReadAddressx2
namespace Go.Proofs.Ytklghegofjigoaa.QFnExactReadAddress
open Go.RowKit Go.Proofs.YtklghegofjigoaaW.PrintWords Go.Proofs.Ytklghegofjigoaa.Opens
set_option linter.unusedVariables false
/-- THE PURE STATEMENT of FnExactReadAddress. -/
def Stated : Prop := ∀ (a0 : ByteArray), a0.size ≤ 140737488351232 → ∃ k, laws_FnExactReadAddress.f k a0 = some true
end Go.Proofs.Ytklghegofjigoaa.QFnExactReadAddress
