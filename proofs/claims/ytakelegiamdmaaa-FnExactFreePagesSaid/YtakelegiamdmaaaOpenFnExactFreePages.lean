/-
  How the parameters of FnExactFreePages are read (every input that can be read as data), and the pure statement that its row is built on.
-/
import Derived.Test.YtakelegiamdmaaaOpens
import Derived.Test.YtakelegiamdmaaaPFnExactFreePagesx4
namespace Go.Proofs.Ytakelegiamdmaaa.PFnExactFreePages
open Go.RowKit Go.Proofs.YtakelegiamdmaaaW.PrintWords Go.Proofs.Ytakelegiamdmaaa.Opens
set_option linter.unusedVariables false
def wf145 (x : S145) : Prop := x.f0.size ≤ 140737488351232 ∧ True ∧ x.f2.size ≤ 140737488351232
theorem opens145 : Opens Try.prog 145 k145 wf145 := opens_iso (fun x : S145 => (x.f0, x.f1, x.f2)) (fun p => ⟨p.1, p.2.1, p.2.2⟩) (fun _ => rfl) (opens_struct Try.underlying145 (by kernel_rfl) (at_cons (opens_string Try.underlying9) rfl (by kernel_rfl) (at_cons (opens_bool Try.underlying4) rfl (by kernel_rfl) (at_last (opens_string Try.underlying9) rfl (by kernel_rfl)))))
/-- THE PURE STATEMENT of FnExactFreePages. -/
def Stated : Prop := ∀ (a0_0 : Int) (a0_1 : Int) (a0_2 : Int) (a0_3 : Int) (l1_0 : List (S145)), (Lit.int .i64 a0_0).wf = true → (Lit.int .i64 a0_1).wf = true → (Lit.int .i64 a0_2).wf = true → (Lit.int .i64 a0_3).wf = true → (l1_0.length * 40 ≤ 140737488351232 ∧ ∀ y ∈ l1_0, wf145 y) → ∃ k, laws_FnExactFreePages.f k a0_0 a0_1 a0_2 a0_3 l1_0 = some true
end Go.Proofs.Ytakelegiamdmaaa.PFnExactFreePages
