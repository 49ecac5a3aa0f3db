/-
  How the parameters of FnExactFallenMemory are read (every input that can be read as data), and the pure statement that its row is built on.
-/
import Derived.Test.YtnmkcognggeioaaVOpens
import Derived.Test.YtnmkcognggeioaaQFnExactFallenMemoryx8
namespace Go.Proofs.Ytnmkcognggeioaa.QFnExactFallenMemory
open Go.RowKit Go.Proofs.YtnmkcognggeioaaW.PrintWords Go.Proofs.Ytnmkcognggeioaa.Opens
set_option linter.unusedVariables false
def wf63 (x : S63) : Prop := (Lit.int .i64 x.f0).wf = true ∧ x.f1.size ≤ 140737488351232 ∧ True
theorem opens63 : Opens Try.prog 63 k63 wf63 := opens_iso (fun x : S63 => (x.f0, x.f1, x.f2)) (fun p => ⟨p.1, p.2.1, p.2.2⟩) (fun _ => rfl) (opens_struct Try.underlying63 (by kernel_rfl) (at_cons (opens_int Try.underlying3) rfl (by kernel_rfl) (at_cons (opens_string Try.underlying9) rfl (by kernel_rfl) (at_last (opens_bool Try.underlying4) rfl (by kernel_rfl)))))
/-- THE PURE STATEMENT of FnExactFallenMemory. -/
def Stated : Prop := ∀ (a0_0 : ByteArray) (l0_1 : List (S63)) (a1 : Int), a0_0.size ≤ 140737488351232 → (l0_1.length * 32 ≤ 140737488351232 ∧ ∀ y ∈ l0_1, wf63 y) → (Lit.int .i64 a1).wf = true → ∃ k, laws_FnExactFallenMemory.f k a0_0 l0_1 a1 = some true
end Go.Proofs.Ytnmkcognggeioaa.QFnExactFallenMemory
