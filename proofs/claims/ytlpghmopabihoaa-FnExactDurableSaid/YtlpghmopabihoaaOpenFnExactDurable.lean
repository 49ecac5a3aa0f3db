/-
  How the parameters of FnExactDurable are read (every input that can be read as data), and the pure statement that its row is built on.
-/
import Derived.Test.YtlpghmopabihoaaOpens
import Derived.Test.YtlpghmopabihoaaQFnExactDurablex5
namespace Go.Proofs.Ytlpghmopabihoaa.QFnExactDurable
open Go.RowKit Go.Proofs.YtlpghmopabihoaaW.PrintWords Go.Proofs.Ytlpghmopabihoaa.Opens
set_option linter.unusedVariables false
def wf163 (x : S163) : Prop := (Lit.int .i64 x.f0).wf = true ∧ x.f1.size ≤ 140737488351232
theorem opens163 : Opens Try.prog 163 k163 wf163 := opens_iso (fun x : S163 => (x.f0, x.f1)) (fun p => ⟨p.1, p.2⟩) (fun _ => rfl) (opens_struct Try.underlying163 (by kernel_rfl) (at_cons (opens_int Try.underlying3) rfl (by kernel_rfl) (at_last (opens_string Try.underlying9) rfl (by kernel_rfl))))
/-- THE PURE STATEMENT of FnExactDurable. -/
def Stated : Prop := ∀ (l0 : List (S163)), (l0.length * 24 ≤ 140737488351232 ∧ ∀ y ∈ l0, wf163 y) → ∃ k, laws_FnExactDurable.f k l0 = some true
end Go.Proofs.Ytlpghmopabihoaa.QFnExactDurable
