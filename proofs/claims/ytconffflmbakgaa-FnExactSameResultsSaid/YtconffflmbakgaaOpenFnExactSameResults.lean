/-
  How the parameters of FnExactSameResults are read (every input that can be read as data), and the pure statement that its row is built on.
-/
import Derived.Test.YtconffflmbakgaaOpens
import Derived.Test.YtconffflmbakgaaQFnExactSameResultsx4
namespace Go.Proofs.Ytconffflmbakgaa.QFnExactSameResults
open Go.RowKit Go.Proofs.YtconffflmbakgaaW.PrintWords Go.Proofs.Ytconffflmbakgaa.Opens
set_option linter.unusedVariables false
def wf121 (x : S121) : Prop := (Lit.int .i64 x.f0).wf = true ∧ x.f1.size ≤ 140737488351232 ∧ (Lit.int .i64 x.f2).wf = true ∧ True ∧ (x.f4.length * 16 ≤ 140737488351232 ∧ ∀ y ∈ x.f4, y.size ≤ 140737488351232)
theorem opens121 : Opens Try.prog 121 k121 wf121 := opens_iso (fun x : S121 => (x.f0, x.f1, x.f2, x.f3, x.f4)) (fun p => ⟨p.1, p.2.1, p.2.2.1, p.2.2.2.1, p.2.2.2.2⟩) (fun _ => rfl) (opens_struct Try.underlying121 (by kernel_rfl) (at_cons (opens_int Try.underlying3) rfl (by kernel_rfl) (at_cons (opens_string Try.underlying9) rfl (by kernel_rfl) (at_cons (opens_int Try.underlying3) rfl (by kernel_rfl) (at_cons (opens_bool Try.underlying4) rfl (by kernel_rfl) (at_last (opens_slice (B := 16) Try.underlying100 (by kernel_rfl) (by kernel_rfl) (opens_string Try.underlying9)) rfl (by kernel_rfl)))))))
/-- THE PURE STATEMENT of FnExactSameResults. -/
def Stated : Prop := ∀ (l0 : List (S121)) (l1 : List (S121)), (l0.length * 64 ≤ 140737488351232 ∧ ∀ y ∈ l0, wf121 y) → (l1.length * 64 ≤ 140737488351232 ∧ ∀ y ∈ l1, wf121 y) → ∃ k, laws_FnExactSameResults.f k l0 l1 = some true
end Go.Proofs.Ytconffflmbakgaa.QFnExactSameResults
