/-
  How the parameters of FnExactJournalText are read (every input that can be read as data), and the pure statement that its row is built on.
-/
import Derived.Test.YtceaelnaogenjaaOpens
import Derived.Test.YtceaelnaogenjaaQFnExactJournalTextx3
namespace Go.Proofs.Ytceaelnaogenjaa.QFnExactJournalText
open Go.RowKit Go.Proofs.YtceaelnaogenjaaW.PrintWords Go.Proofs.Ytceaelnaogenjaa.Opens
set_option linter.unusedVariables false
def wf44 (x : S44) : Prop := (Lit.int .i64 x.f0).wf = true ∧ x.f1.size ≤ 140737488351232
theorem opens44 : Opens Try.prog 44 k44 wf44 := opens_iso (fun x : S44 => (x.f0, x.f1)) (fun p => ⟨p.1, p.2⟩) (fun _ => rfl) (opens_struct Try.underlying44 (by kernel_rfl) (at_cons (opens_int Try.underlying3) rfl (by kernel_rfl) (at_last (opens_string Try.underlying9) rfl (by kernel_rfl))))
/-- THE PURE STATEMENT of FnExactJournalText. -/
def Stated : Prop := ∀ (l0 : List (S44)), (l0.length * 24 ≤ 140737488351232 ∧ ∀ y ∈ l0, wf44 y) → ∃ k, laws_FnExactJournalText.f k l0 = some true
end Go.Proofs.Ytceaelnaogenjaa.QFnExactJournalText
