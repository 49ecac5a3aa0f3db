/-
  How the parameters of FnExactMaskedImage are read (every input that can be read as data), and the pure statement that its row is built on.
-/
import Derived.Test.YtconffflmbakgaaVOpens
import Derived.Test.YtconffflmbakgaaQFnExactMaskedImagex13
namespace Go.Proofs.Ytconffflmbakgaa.QFnExactMaskedImage
open Go.RowKit Go.Proofs.YtconffflmbakgaaW.PrintWords Go.Proofs.Ytconffflmbakgaa.Opens
set_option linter.unusedVariables false
def wf149 (x : S149) : Prop := (Lit.int .i64 x.f0).wf = true ∧ x.f1.size ≤ 140737488351232 ∧ True
theorem opens149 : Opens Try.prog 149 k149 wf149 := opens_iso (fun x : S149 => (x.f0, x.f1, x.f2)) (fun p => ⟨p.1, p.2.1, p.2.2⟩) (fun _ => rfl) (opens_struct Try.underlying149 (by kernel_rfl) (at_cons (opens_int Try.underlying3) rfl (by kernel_rfl) (at_cons (opens_string Try.underlying9) rfl (by kernel_rfl) (at_last (opens_bool Try.underlying4) rfl (by kernel_rfl)))))
/-- THE PURE STATEMENT of FnExactMaskedImage. -/
def Stated : Prop := ∀ (a0_0 : ByteArray) (l0_1 : List (S149)) (a1_0 : Int) (a1_1 : Int) (a1_2 : Int) (a1_3 : Int), a0_0.size ≤ 140737488351232 → (l0_1.length * 32 ≤ 140737488351232 ∧ ∀ y ∈ l0_1, wf149 y) → (Lit.int .i64 a1_0).wf = true → (Lit.int .i64 a1_1).wf = true → (Lit.int .i64 a1_2).wf = true → (Lit.int .i64 a1_3).wf = true → ∃ k, laws_FnExactMaskedImage.f k a0_0 l0_1 a1_0 a1_1 a1_2 a1_3 = some true
end Go.Proofs.Ytconffflmbakgaa.QFnExactMaskedImage
