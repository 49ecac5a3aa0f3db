/-
  How the parameters of FnExactMaskedWord are read (every input that can be read as data), and the pure statement that its row is built on.
-/
import Derived.Test.YtconffflmbakgaaVOpens
import Derived.Test.YtconffflmbakgaaQFnExactMaskedWordx13
namespace Go.Proofs.Ytconffflmbakgaa.QFnExactMaskedWord
open Go.RowKit Go.Proofs.YtconffflmbakgaaW.PrintWords Go.Proofs.Ytconffflmbakgaa.Opens
set_option linter.unusedVariables false
def wf149 (x : S149) : Prop := (Lit.int .i64 x.f0).wf = true ∧ x.f1.size ≤ 140737488351232 ∧ True
theorem opens149 : Opens Try.prog 149 k149 wf149 := opens_iso (fun x : S149 => (x.f0, x.f1, x.f2)) (fun p => ⟨p.1, p.2.1, p.2.2⟩) (fun _ => rfl) (opens_struct Try.underlying149 (by kernel_rfl) (at_cons (opens_int Try.underlying3) rfl (by kernel_rfl) (at_cons (opens_string Try.underlying9) rfl (by kernel_rfl) (at_last (opens_bool Try.underlying4) rfl (by kernel_rfl)))))
/-- THE PURE STATEMENT of FnExactMaskedWord. -/
def Stated : Prop := ∀ (a0_0 : Int) (a0_1 : Int) (a0_2 : Int) (a0_3 : Int) (a1 : Int) (a2_0 : ByteArray) (l2_1 : List (S149)), (Lit.int .i64 a0_0).wf = true → (Lit.int .i64 a0_1).wf = true → (Lit.int .i64 a0_2).wf = true → (Lit.int .i64 a0_3).wf = true → (Lit.int .i64 a1).wf = true → a2_0.size ≤ 140737488351232 → (l2_1.length * 32 ≤ 140737488351232 ∧ ∀ y ∈ l2_1, wf149 y) → ∃ k, laws_FnExactMaskedWord.f k a0_0 a0_1 a0_2 a0_3 a1 a2_0 l2_1 = some true
end Go.Proofs.Ytconffflmbakgaa.QFnExactMaskedWord
