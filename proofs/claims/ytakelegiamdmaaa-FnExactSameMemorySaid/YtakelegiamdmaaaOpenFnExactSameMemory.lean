/-
  How the parameters of FnExactSameMemory are read (every input that can be read as data), and the pure statement that its row is built on.
-/
import Derived.Test.YtakelegiamdmaaaOpens
import Derived.Test.YtakelegiamdmaaaPFnExactSameMemoryx4
namespace Go.Proofs.Ytakelegiamdmaaa.PFnExactSameMemory
open Go.RowKit Go.Proofs.YtakelegiamdmaaaW.PrintWords Go.Proofs.Ytakelegiamdmaaa.Opens
set_option linter.unusedVariables false
def wf140 (x : S140) : Prop := (Lit.int .i64 x.f0).wf = true ∧ x.f1.size ≤ 140737488351232 ∧ True
theorem opens140 : Opens Try.prog 140 k140 wf140 := opens_iso (fun x : S140 => (x.f0, x.f1, x.f2)) (fun p => ⟨p.1, p.2.1, p.2.2⟩) (fun _ => rfl) (opens_struct Try.underlying140 (by kernel_rfl) (at_cons (opens_int Try.underlying3) rfl (by kernel_rfl) (at_cons (opens_string Try.underlying9) rfl (by kernel_rfl) (at_last (opens_bool Try.underlying4) rfl (by kernel_rfl)))))
/-- THE PURE STATEMENT of FnExactSameMemory. -/
def Stated : Prop := ∀ (a0_0 : ByteArray) (l0_1 : List (S140)) (a1_0 : ByteArray) (l1_1 : List (S140)), a0_0.size ≤ 140737488351232 → (l0_1.length * 32 ≤ 140737488351232 ∧ ∀ y ∈ l0_1, wf140 y) → a1_0.size ≤ 140737488351232 → (l1_1.length * 32 ≤ 140737488351232 ∧ ∀ y ∈ l1_1, wf140 y) → ∃ k, laws_FnExactSameMemory.f k a0_0 l0_1 a1_0 l1_1 = some true
end Go.Proofs.Ytakelegiamdmaaa.PFnExactSameMemory
