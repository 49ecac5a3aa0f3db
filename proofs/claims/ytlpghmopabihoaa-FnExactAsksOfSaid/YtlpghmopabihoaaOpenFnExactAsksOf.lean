/-
  How the parameters of FnExactAsksOf are read (every input that can be read as data), and the pure statement that its row is built on.
-/
import Derived.Test.YtlpghmopabihoaaVOpens
import Derived.Test.YtlpghmopabihoaaQFnExactAsksOfx10
namespace Go.Proofs.Ytlpghmopabihoaa.QFnExactAsksOf
open Go.RowKit Go.Proofs.YtlpghmopabihoaaW.PrintWords Go.Proofs.Ytlpghmopabihoaa.Opens
set_option linter.unusedVariables false
def wf115 (x : S115) : Prop := (Lit.int .i64 x.f0).wf = true ∧ x.f1.size ≤ 140737488351232 ∧ x.f2.size ≤ 140737488351232 ∧ (Lit.int .i64 x.f3).wf = true ∧ (Lit.int .i64 x.f4).wf = true ∧ x.f5.size ≤ 140737488351232
theorem opens115 : Opens Try.prog 115 k115 wf115 := opens_iso (fun x : S115 => (x.f0, x.f1, x.f2, x.f3, x.f4, x.f5)) (fun p => ⟨p.1, p.2.1, p.2.2.1, p.2.2.2.1, p.2.2.2.2.1, p.2.2.2.2.2⟩) (fun _ => rfl) (opens_struct Try.underlying115 (by kernel_rfl) (at_cons (opens_int Try.underlying3) rfl (by kernel_rfl) (at_cons (opens_string Try.underlying9) rfl (by kernel_rfl) (at_cons (opens_string Try.underlying9) rfl (by kernel_rfl) (at_cons (opens_int Try.underlying3) rfl (by kernel_rfl) (at_cons (opens_int Try.underlying3) rfl (by kernel_rfl) (at_last (opens_string Try.underlying9) rfl (by kernel_rfl))))))))
def wf117 (x : S117) : Prop := (Lit.int .i64 x.f0).wf = true ∧ (Lit.int .i64 x.f1).wf = true ∧ wf115 x.f2 ∧ (Lit.int .i64 x.f3).wf = true
theorem opens117 : Opens Try.prog 117 k117 wf117 := opens_iso (fun x : S117 => (x.f0, x.f1, x.f2, x.f3)) (fun p => ⟨p.1, p.2.1, p.2.2.1, p.2.2.2⟩) (fun _ => rfl) (opens_struct Try.underlying117 (by kernel_rfl) (at_cons (opens_int Try.underlying3) rfl (by kernel_rfl) (at_cons (opens_int Try.underlying3) rfl (by kernel_rfl) (at_cons opens115 rfl (by kernel_rfl) (at_last (opens_int Try.underlying3) rfl (by kernel_rfl))))))
def wf119 (x : S119) : Prop := (Lit.int .i64 x.f0).wf = true ∧ x.f1.size ≤ 140737488351232 ∧ (Lit.int .i64 x.f2).wf = true ∧ True ∧ (x.f4.length * 16 ≤ 140737488351232 ∧ ∀ y ∈ x.f4, y.size ≤ 140737488351232)
theorem opens119 : Opens Try.prog 119 k119 wf119 := opens_iso (fun x : S119 => (x.f0, x.f1, x.f2, x.f3, x.f4)) (fun p => ⟨p.1, p.2.1, p.2.2.1, p.2.2.2.1, p.2.2.2.2⟩) (fun _ => rfl) (opens_struct Try.underlying119 (by kernel_rfl) (at_cons (opens_int Try.underlying3) rfl (by kernel_rfl) (at_cons (opens_string Try.underlying9) rfl (by kernel_rfl) (at_cons (opens_int Try.underlying3) rfl (by kernel_rfl) (at_cons (opens_bool Try.underlying4) rfl (by kernel_rfl) (at_last (opens_slice (B := 16) Try.underlying93 (by kernel_rfl) (by kernel_rfl) (opens_string Try.underlying9)) rfl (by kernel_rfl)))))))
def wf121 (x : S121) : Prop := (Lit.int .i64 x.f0).wf = true ∧ (Lit.int .i64 x.f1).wf = true ∧ True ∧ wf119 x.f3
theorem opens121 : Opens Try.prog 121 k121 wf121 := opens_iso (fun x : S121 => (x.f0, x.f1, x.f2, x.f3)) (fun p => ⟨p.1, p.2.1, p.2.2.1, p.2.2.2⟩) (fun _ => rfl) (opens_struct Try.underlying121 (by kernel_rfl) (at_cons (opens_int Try.underlying3) rfl (by kernel_rfl) (at_cons (opens_int Try.underlying3) rfl (by kernel_rfl) (at_cons (opens_bool Try.underlying4) rfl (by kernel_rfl) (at_last opens119 rfl (by kernel_rfl))))))
/-- THE PURE STATEMENT of FnExactAsksOf. -/
def Stated : Prop := ∀ (l0 : List (S117)) (l1 : List (S121)) (a2 : Int), (l0.length * 96 ≤ 140737488351232 ∧ ∀ y ∈ l0, wf117 y) → (l1.length * 88 ≤ 140737488351232 ∧ ∀ y ∈ l1, wf121 y) → (Lit.int .i64 a2).wf = true → ∃ k, laws_FnExactAsksOf.f k l0 l1 a2 = some true
end Go.Proofs.Ytlpghmopabihoaa.QFnExactAsksOf
