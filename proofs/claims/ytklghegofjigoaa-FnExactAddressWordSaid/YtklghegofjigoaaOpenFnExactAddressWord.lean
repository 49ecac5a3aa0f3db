/-
  How the parameters of FnExactAddressWord are read (every input that can be read as data), and the pure statement that its row is built on.
-/
import Derived.Test.YtklghegofjigoaaOpens
import Derived.Test.YtklghegofjigoaaQFnExactAddressWordx2
namespace Go.Proofs.Ytklghegofjigoaa.QFnExactAddressWord
open Go.RowKit Go.Proofs.YtklghegofjigoaaW.PrintWords Go.Proofs.Ytklghegofjigoaa.Opens
set_option linter.unusedVariables false
/-- THE PURE STATEMENT of FnExactAddressWord. -/
def Stated : Prop := ∀ (a0 : Int), (Lit.int .i64 a0).wf = true → ∃ k, laws_FnExactAddressWord.f k a0 = some true
end Go.Proofs.Ytklghegofjigoaa.QFnExactAddressWord
