/-
  How the parameters of FnExactAsksIn are read (every input that can be read as data), and the pure statement that its row is built on.
-/
import Derived.Test.YtakelegiamdmaaaOpens
import Derived.Test.YtakelegiamdmaaaPFnExactAsksInx2
namespace Go.Proofs.Ytakelegiamdmaaa.PFnExactAsksIn
open Go.RowKit Go.Proofs.YtakelegiamdmaaaW.PrintWords Go.Proofs.Ytakelegiamdmaaa.Opens
set_option linter.unusedVariables false
def wf23 (x : S23) : Prop := (Lit.int .i64 x.f0).wf = true ∧ x.f1.size ≤ 140737488351232 ∧ x.f2.size ≤ 140737488351232 ∧ (Lit.int .i64 x.f3).wf = true ∧ (Lit.int .i64 x.f4).wf = true ∧ x.f5.size ≤ 140737488351232
theorem opens23 : Opens Try.prog 23 k23 wf23 := opens_iso (fun x : S23 => (x.f0, x.f1, x.f2, x.f3, x.f4, x.f5)) (fun p => ⟨p.1, p.2.1, p.2.2.1, p.2.2.2.1, p.2.2.2.2.1, p.2.2.2.2.2⟩) (fun _ => rfl) (opens_struct Try.underlying23 (by kernel_rfl) (at_cons (opens_int Try.underlying3) rfl (by kernel_rfl) (at_cons (opens_string Try.underlying9) rfl (by kernel_rfl) (at_cons (opens_string Try.underlying9) rfl (by kernel_rfl) (at_cons (opens_int Try.underlying3) rfl (by kernel_rfl) (at_cons (opens_int Try.underlying3) rfl (by kernel_rfl) (at_last (opens_string Try.underlying9) rfl (by kernel_rfl))))))))
def wf30 (x : S30) : Prop := (Lit.int .i64 x.f0).wf = true ∧ (Lit.int .i64 x.f1).wf = true ∧ wf23 x.f2 ∧ (Lit.int .i64 x.f3).wf = true
theorem opens30 : Opens Try.prog 30 k30 wf30 := opens_iso (fun x : S30 => (x.f0, x.f1, x.f2, x.f3)) (fun p => ⟨p.1, p.2.1, p.2.2.1, p.2.2.2⟩) (fun _ => rfl) (opens_struct Try.underlying30 (by kernel_rfl) (at_cons (opens_int Try.underlying3) rfl (by kernel_rfl) (at_cons (opens_int Try.underlying3) rfl (by kernel_rfl) (at_cons opens23 rfl (by kernel_rfl) (at_last (opens_int Try.underlying3) rfl (by kernel_rfl))))))
/-- THE PURE STATEMENT of FnExactAsksIn. -/
def Stated : Prop := ∀ (l0 : List (S30)), (l0.length * 96 ≤ 140737488351232 ∧ ∀ y ∈ l0, wf30 y) → ∃ k, laws_FnExactAsksIn.f k l0 = some true
end Go.Proofs.Ytakelegiamdmaaa.PFnExactAsksIn
