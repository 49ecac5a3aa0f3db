/-
  How the parameters of FnExactDoneIn are read (every input that can be read as data), and the pure statement that its row is built on.
-/
import Derived.Test.YtakelegiamdmaaaOpens
import Derived.Test.YtakelegiamdmaaaQFnExactDoneInx3
namespace Go.Proofs.Ytakelegiamdmaaa.PFnExactDoneIn
open Go.RowKit Go.Proofs.YtakelegiamdmaaaW.PrintWords Go.Proofs.Ytakelegiamdmaaa.Opens
set_option linter.unusedVariables false
def wf46 (x : S46) : Prop := (Lit.int .i64 x.f0).wf = true ∧ x.f1.size ≤ 140737488351232 ∧ (Lit.int .i64 x.f2).wf = true ∧ True ∧ (x.f4.length * 16 ≤ 140737488351232 ∧ ∀ y ∈ x.f4, y.size ≤ 140737488351232)
theorem opens46 : Opens Try.prog 46 k46 wf46 := opens_iso (fun x : S46 => (x.f0, x.f1, x.f2, x.f3, x.f4)) (fun p => ⟨p.1, p.2.1, p.2.2.1, p.2.2.2.1, p.2.2.2.2⟩) (fun _ => rfl) (opens_struct Try.underlying46 (by kernel_rfl) (at_cons (opens_int Try.underlying3) rfl (by kernel_rfl) (at_cons (opens_string Try.underlying9) rfl (by kernel_rfl) (at_cons (opens_int Try.underlying3) rfl (by kernel_rfl) (at_cons (opens_bool Try.underlying4) rfl (by kernel_rfl) (at_last (opens_slice (B := 16) Try.underlying44 (by kernel_rfl) (by kernel_rfl) (opens_string Try.underlying9)) rfl (by kernel_rfl)))))))
def wf131 (x : S131) : Prop := (Lit.int .i64 x.f0).wf = true ∧ (Lit.int .i64 x.f1).wf = true ∧ True ∧ wf46 x.f3
theorem opens131 : Opens Try.prog 131 k131 wf131 := opens_iso (fun x : S131 => (x.f0, x.f1, x.f2, x.f3)) (fun p => ⟨p.1, p.2.1, p.2.2.1, p.2.2.2⟩) (fun _ => rfl) (opens_struct Try.underlying131 (by kernel_rfl) (at_cons (opens_int Try.underlying3) rfl (by kernel_rfl) (at_cons (opens_int Try.underlying3) rfl (by kernel_rfl) (at_cons (opens_bool Try.underlying4) rfl (by kernel_rfl) (at_last opens46 rfl (by kernel_rfl))))))
/-- THE PURE STATEMENT of FnExactDoneIn. -/
def Stated : Prop := ∀ (l0 : List (S131)), (l0.length * 88 ≤ 140737488351232 ∧ ∀ y ∈ l0, wf131 y) → ∃ k, laws_FnExactDoneIn.f k l0 = some true
end Go.Proofs.Ytakelegiamdmaaa.PFnExactDoneIn
