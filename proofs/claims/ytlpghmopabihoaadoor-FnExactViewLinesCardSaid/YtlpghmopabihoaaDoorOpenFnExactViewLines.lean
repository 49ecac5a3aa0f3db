/-
  How the parameters of FnExactViewLines are read (every input that can be read as data), and the pure statement that its row is built on.
-/
import Derived.Test.YtlpghmopabihoaaDoorOpens
import Derived.Test.YtlpghmopabihoaaDoorQFnExactViewLinesx5
namespace Go.Proofs.YtlpghmopabihoaaDoor.QFnExactViewLines
open Go.RowKit Go.Proofs.YtlpghmopabihoaaDoorW.PrintWords Go.Proofs.YtlpghmopabihoaaDoor.Opens
set_option linter.unusedVariables false
def wf80 (x : S80) : Prop := x.f0.size ≤ 140737488351232 ∧ True ∧ x.f2.size ≤ 140737488351232
theorem opens80 : Opens Tryd.prog 80 k80 wf80 := opens_iso (fun x : S80 => (x.f0, x.f1, x.f2)) (fun p => ⟨p.1, p.2.1, p.2.2⟩) (fun _ => rfl) (opens_struct Tryd.underlying80 (by kernel_rfl) (at_cons (opens_string Tryd.underlying9) rfl (by kernel_rfl) (at_cons (opens_bool Tryd.underlying4) rfl (by kernel_rfl) (at_last (opens_string Tryd.underlying9) rfl (by kernel_rfl)))))
/-- THE PURE STATEMENT of FnExactViewLines. -/
def Stated : Prop := ∀ (l0_0 : List (S80)), (l0_0.length * 40 ≤ 140737488351232 ∧ ∀ y ∈ l0_0, wf80 y) → ∃ k, laws_FnExactViewLines.f k l0_0 = some true
end Go.Proofs.YtlpghmopabihoaaDoor.QFnExactViewLines
