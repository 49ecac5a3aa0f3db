/-
  How the parameters of FnExactWoven are read (every input that can be read as data), and the pure statement that its row is built on.
-/
import Derived.Test.YtklghegofjigoaaOpens
import Derived.Test.YtklghegofjigoaaQFnExactWovenx6
namespace Go.Proofs.Ytklghegofjigoaa.QFnExactWoven
open Go.RowKit Go.Proofs.YtklghegofjigoaaW.PrintWords Go.Proofs.Ytklghegofjigoaa.Opens
set_option linter.unusedVariables false
def wf102 (x : S102) : Prop := (Lit.int .i64 x.f0).wf = true ∧ x.f1.size ≤ 140737488351232 ∧ x.f2.size ≤ 140737488351232 ∧ (Lit.int .i64 x.f3).wf = true ∧ (Lit.int .i64 x.f4).wf = true ∧ x.f5.size ≤ 140737488351232
theorem opens102 : Opens Try.prog 102 k102 wf102 := opens_iso (fun x : S102 => (x.f0, x.f1, x.f2, x.f3, x.f4, x.f5)) (fun p => ⟨p.1, p.2.1, p.2.2.1, p.2.2.2.1, p.2.2.2.2.1, p.2.2.2.2.2⟩) (fun _ => rfl) (opens_struct Try.underlying102 (by kernel_rfl) (at_cons (opens_int Try.underlying3) rfl (by kernel_rfl) (at_cons (opens_string Try.underlying9) rfl (by kernel_rfl) (at_cons (opens_string Try.underlying9) rfl (by kernel_rfl) (at_cons (opens_int Try.underlying3) rfl (by kernel_rfl) (at_cons (opens_int Try.underlying3) rfl (by kernel_rfl) (at_last (opens_string Try.underlying9) rfl (by kernel_rfl))))))))
def wf104 (x : S104) : Prop := (Lit.int .i64 x.f0).wf = true ∧ (Lit.int .i64 x.f1).wf = true ∧ wf102 x.f2 ∧ (Lit.int .i64 x.f3).wf = true
theorem opens104 : Opens Try.prog 104 k104 wf104 := opens_iso (fun x : S104 => (x.f0, x.f1, x.f2, x.f3)) (fun p => ⟨p.1, p.2.1, p.2.2.1, p.2.2.2⟩) (fun _ => rfl) (opens_struct Try.underlying104 (by kernel_rfl) (at_cons (opens_int Try.underlying3) rfl (by kernel_rfl) (at_cons (opens_int Try.underlying3) rfl (by kernel_rfl) (at_cons opens102 rfl (by kernel_rfl) (at_last (opens_int Try.underlying3) rfl (by kernel_rfl))))))
/-- THE PURE STATEMENT of FnExactWoven. -/
def Stated : Prop := ∀ (l0 : List (S104)) (l1 : List (S104)) (l2 : List (Int)), (l0.length * 96 ≤ 140737488351232 ∧ ∀ y ∈ l0, wf104 y) → (l1.length * 96 ≤ 140737488351232 ∧ ∀ y ∈ l1, wf104 y) → (l2.length * 8 ≤ 140737488351232 ∧ ∀ y ∈ l2, (Lit.int .i64 y).wf = true) → ∃ k, laws_FnExactWoven.f k l0 l1 l2 = some true
end Go.Proofs.Ytklghegofjigoaa.QFnExactWoven
