/-
  How the parameters of FnExactCodesTo are read (every input that can be read as data), and the pure statement that its row is built on.
-/
import Derived.Test.YtklghegofjigoaaOpens
import Derived.Test.YtklghegofjigoaaQFnExactCodesTox4
namespace Go.Proofs.Ytklghegofjigoaa.QFnExactCodesTo
open Go.RowKit Go.Proofs.YtklghegofjigoaaW.PrintWords Go.Proofs.Ytklghegofjigoaa.Opens
set_option linter.unusedVariables false
def wf122 (x : S122) : Prop := (Lit.int .i64 x.f0).wf = true ∧ x.f1.size ≤ 140737488351232 ∧ (Lit.int .i64 x.f2).wf = true ∧ True ∧ (x.f4.length * 16 ≤ 140737488351232 ∧ ∀ y ∈ x.f4, y.size ≤ 140737488351232)
theorem opens122 : Opens Try.prog 122 k122 wf122 := opens_iso (fun x : S122 => (x.f0, x.f1, x.f2, x.f3, x.f4)) (fun p => ⟨p.1, p.2.1, p.2.2.1, p.2.2.2.1, p.2.2.2.2⟩) (fun _ => rfl) (opens_struct Try.underlying122 (by kernel_rfl) (at_cons (opens_int Try.underlying3) rfl (by kernel_rfl) (at_cons (opens_string Try.underlying9) rfl (by kernel_rfl) (at_cons (opens_int Try.underlying3) rfl (by kernel_rfl) (at_cons (opens_bool Try.underlying4) rfl (by kernel_rfl) (at_last (opens_slice (B := 16) Try.underlying120 (by kernel_rfl) (by kernel_rfl) (opens_string Try.underlying9)) rfl (by kernel_rfl)))))))
def wf124 (x : S124) : Prop := (Lit.int .i64 x.f0).wf = true ∧ (Lit.int .i64 x.f1).wf = true ∧ True ∧ wf122 x.f3
theorem opens124 : Opens Try.prog 124 k124 wf124 := opens_iso (fun x : S124 => (x.f0, x.f1, x.f2, x.f3)) (fun p => ⟨p.1, p.2.1, p.2.2.1, p.2.2.2⟩) (fun _ => rfl) (opens_struct Try.underlying124 (by kernel_rfl) (at_cons (opens_int Try.underlying3) rfl (by kernel_rfl) (at_cons (opens_int Try.underlying3) rfl (by kernel_rfl) (at_cons (opens_bool Try.underlying4) rfl (by kernel_rfl) (at_last opens122 rfl (by kernel_rfl))))))
/-- THE PURE STATEMENT of FnExactCodesTo. -/
def Stated : Prop := ∀ (l0 : List (S124)) (a1 : Int), (l0.length * 88 ≤ 140737488351232 ∧ ∀ y ∈ l0, wf124 y) → (Lit.int .i64 a1).wf = true → ∃ k, laws_FnExactCodesTo.f k l0 a1 = some true
end Go.Proofs.Ytklghegofjigoaa.QFnExactCodesTo
