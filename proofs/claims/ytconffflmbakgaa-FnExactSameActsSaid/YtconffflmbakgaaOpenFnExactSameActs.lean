/-
  How the parameters of FnExactSameActs are read (every input that can be read as data), and the pure statement that its row is built on.
-/
import Derived.Test.YtconffflmbakgaaOpens
import Derived.Test.YtconffflmbakgaaQFnExactSameActsx6
namespace Go.Proofs.Ytconffflmbakgaa.QFnExactSameActs
open Go.RowKit Go.Proofs.YtconffflmbakgaaW.PrintWords Go.Proofs.Ytconffflmbakgaa.Opens
set_option linter.unusedVariables false
def wf126 (x : S126) : Prop := (Lit.int .i64 x.f0).wf = true ∧ x.f1.size ≤ 140737488351232 ∧ x.f2.size ≤ 140737488351232 ∧ (Lit.int .i64 x.f3).wf = true ∧ (Lit.int .i64 x.f4).wf = true ∧ x.f5.size ≤ 140737488351232
theorem opens126 : Opens Try.prog 126 k126 wf126 := opens_iso (fun x : S126 => (x.f0, x.f1, x.f2, x.f3, x.f4, x.f5)) (fun p => ⟨p.1, p.2.1, p.2.2.1, p.2.2.2.1, p.2.2.2.2.1, p.2.2.2.2.2⟩) (fun _ => rfl) (opens_struct Try.underlying126 (by kernel_rfl) (at_cons (opens_int Try.underlying3) rfl (by kernel_rfl) (at_cons (opens_string Try.underlying9) rfl (by kernel_rfl) (at_cons (opens_string Try.underlying9) rfl (by kernel_rfl) (at_cons (opens_int Try.underlying3) rfl (by kernel_rfl) (at_cons (opens_int Try.underlying3) rfl (by kernel_rfl) (at_last (opens_string Try.underlying9) rfl (by kernel_rfl))))))))
def wf128 (x : S128) : Prop := (Lit.int .i64 x.f0).wf = true ∧ (Lit.int .i64 x.f1).wf = true ∧ wf126 x.f2 ∧ (Lit.int .i64 x.f3).wf = true
theorem opens128 : Opens Try.prog 128 k128 wf128 := opens_iso (fun x : S128 => (x.f0, x.f1, x.f2, x.f3)) (fun p => ⟨p.1, p.2.1, p.2.2.1, p.2.2.2⟩) (fun _ => rfl) (opens_struct Try.underlying128 (by kernel_rfl) (at_cons (opens_int Try.underlying3) rfl (by kernel_rfl) (at_cons (opens_int Try.underlying3) rfl (by kernel_rfl) (at_cons opens126 rfl (by kernel_rfl) (at_last (opens_int Try.underlying3) rfl (by kernel_rfl))))))
/-- THE PURE STATEMENT of FnExactSameActs. -/
def Stated : Prop := ∀ (l0 : List (S128)) (l1 : List (S128)) (a2 : Int), (l0.length * 96 ≤ 140737488351232 ∧ ∀ y ∈ l0, wf128 y) → (l1.length * 96 ≤ 140737488351232 ∧ ∀ y ∈ l1, wf128 y) → (Lit.int .i64 a2).wf = true → ∃ k, laws_FnExactSameActs.f k l0 l1 a2 = some true
end Go.Proofs.Ytconffflmbakgaa.QFnExactSameActs
