/-
  How the parameters of FnExactStoresIn are read (every input that can be read as data), and the pure statement that its row is built on.
-/
import Derived.Test.YtakelegiamdmaaaOpens
import Derived.Test.YtakelegiamdmaaaPFnExactStoresInx4
namespace Go.Proofs.Ytakelegiamdmaaa.PFnExactStoresIn
open Go.RowKit Go.Proofs.YtakelegiamdmaaaW.PrintWords Go.Proofs.Ytakelegiamdmaaa.Opens
set_option linter.unusedVariables false
def wf107 (x : S107) : Prop := (Lit.int .i64 x.f0).wf = true ∧ (Lit.int .i64 x.f1).wf = true ∧ x.f2.size ≤ 140737488351232
theorem opens107 : Opens Try.prog 107 k107 wf107 := opens_iso (fun x : S107 => (x.f0, x.f1, x.f2)) (fun p => ⟨p.1, p.2.1, p.2.2⟩) (fun _ => rfl) (opens_struct Try.underlying107 (by kernel_rfl) (at_cons (opens_int Try.underlying3) rfl (by kernel_rfl) (at_cons (opens_int Try.underlying3) rfl (by kernel_rfl) (at_last (opens_string Try.underlying9) rfl (by kernel_rfl)))))
/-- THE PURE STATEMENT of FnExactStoresIn. -/
def Stated : Prop := ∀ (l0 : List (S107)), (l0.length * 32 ≤ 140737488351232 ∧ ∀ y ∈ l0, wf107 y) → ∃ k, laws_FnExactStoresIn.f k l0 = some true
end Go.Proofs.Ytakelegiamdmaaa.PFnExactStoresIn
