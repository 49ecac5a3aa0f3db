/-
  How the parameters of FnExactSameResult are read (every input that can be read as data), and the pure statement that its row is built on.
-/
import Derived.Test.YtakelegiamdmaaaOpens
import Derived.Test.YtakelegiamdmaaaQFnExactSameResultx3
namespace Go.Proofs.Ytakelegiamdmaaa.QFnExactSameResult
open Go.RowKit Go.Proofs.YtakelegiamdmaaaW.PrintWords Go.Proofs.Ytakelegiamdmaaa.Opens
set_option linter.unusedVariables false
/-- THE PURE STATEMENT of FnExactSameResult. -/
def Stated : Prop := ∀ (a0_0 : Int) (a0_1 : ByteArray) (a0_2 : Int) (a0_3 : Bool) (l0_4 : List (ByteArray)) (a1_0 : Int) (a1_1 : ByteArray) (a1_2 : Int) (a1_3 : Bool) (l1_4 : List (ByteArray)), (Lit.int .i64 a0_0).wf = true → a0_1.size ≤ 140737488351232 → (Lit.int .i64 a0_2).wf = true → (l0_4.length * 16 ≤ 140737488351232 ∧ ∀ y ∈ l0_4, y.size ≤ 140737488351232) → (Lit.int .i64 a1_0).wf = true → a1_1.size ≤ 140737488351232 → (Lit.int .i64 a1_2).wf = true → (l1_4.length * 16 ≤ 140737488351232 ∧ ∀ y ∈ l1_4, y.size ≤ 140737488351232) → ∃ k, laws_FnExactSameResult.f k a0_0 a0_1 a0_2 a0_3 l0_4 a1_0 a1_1 a1_2 a1_3 l1_4 = some true
end Go.Proofs.Ytakelegiamdmaaa.QFnExactSameResult
