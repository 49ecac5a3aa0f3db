/-
  How the parameters of FnExactActOk are read (every input that can be read as data), and the pure statement that its row is built on.
-/
import Derived.Test.YtakelegiamdmaaaOpens
import Derived.Test.YtakelegiamdmaaaPFnExactActOkx1
namespace Go.Proofs.Ytakelegiamdmaaa.PFnExactActOk
open Go.RowKit Go.Proofs.YtakelegiamdmaaaW.PrintWords Go.Proofs.Ytakelegiamdmaaa.Opens
set_option linter.unusedVariables false
/-- THE PURE STATEMENT of FnExactActOk. -/
def Stated : Prop := ∀ (a0_0 : Int) (a0_1 : Int) (a0_2 : Int) (a0_3 : ByteArray) (a0_4 : ByteArray) (a0_5 : Int) (a0_6 : Int) (a0_7 : ByteArray) (a0_8 : Int), (Lit.int .i64 a0_0).wf = true → (Lit.int .i64 a0_1).wf = true → (Lit.int .i64 a0_2).wf = true → a0_3.size ≤ 140737488351232 → a0_4.size ≤ 140737488351232 → (Lit.int .i64 a0_5).wf = true → (Lit.int .i64 a0_6).wf = true → a0_7.size ≤ 140737488351232 → (Lit.int .i64 a0_8).wf = true → laws_FnExactActOk.f a0_0 a0_1 a0_2 a0_3 a0_4 a0_5 a0_6 a0_7 a0_8 = some true
end Go.Proofs.Ytakelegiamdmaaa.PFnExactActOk
