/-
  Sizes, copies and comparisons of FnExactFencesIn: what the functions sz.., to.., eq.. of the law answer.
-/
import Derived.Test.YtakelegiamdmaaaOpenFnExactFencesIn
import Derived.Test.YtakelegiamdmaaaKit
import Derived.Test.YtakelegiamdmaaaPFnExactFencesInx1
import Derived.Test.YtakelegiamdmaaaPFnExactFencesInx2
namespace Go.Proofs.Ytakelegiamdmaaa.PFnExactFencesIn
open Go.RowKit Go.Proofs.YtakelegiamdmaaaW.PrintWords Go.Proofs.Ytakelegiamdmaaa.Opens Go.Proofs.Ytakelegiamdmaaa.Kit
set_option linter.unusedVariables false
set_option linter.unusedSimpArgs false
theorem szStep_sz (a0_0 : Int) (a0_1 : Int) (a0_2 : ByteArray) (h0_2 : a0_2.size ≤ 140737488351232) : Szf (fun k a => laws_szStep.f a0_0 a0_1 a0_2 a) (a0_2.size + 0) := by
  have H := (szf_str h0_2 szf_ret)
  exact H
def w107 (x : S107) : Nat := (x.f2.size + 0)
theorem szStepS_sz (l : List (S107)) (h : (l.length * 32 ≤ 140737488351232 ∧ ∀ y ∈ l, wf107 y)) : Szf (fun k a => laws_szStepS.f k l a) (l.length + (l.map w107).sum) := by
  have H := szf_list (l := l) (L0 := laws_szStepS.l0) (step := fun k x s => laws_szStep.f x.f0 x.f1 x.f2 s) (rd := rd_T107) (fun _ _ _ _ => rfl) getD_get (by have := h.1; omega) (fun a ha => szStep_sz a.f0 a.f1 a.f2 (h.2 a ha).2.2)
  exact H
theorem toStep_to (a0_0 : Int) (a0_1 : Int) (a0_2 : ByteArray) (h : (a0_2.size + 0) ≤ 1048576) : Ev (fun k => laws_toStep.f a0_0 a0_1 a0_2) (a0_0, a0_1, a0_2) := by
  unfold laws_toStep.f
  exact (Ev.now _)
def w108 (x : S108) : Nat := (x.f2.size + 0)
def c107 (x : S107) : S108 := ⟨x.f0, x.f1, x.f2⟩
theorem cw107 (x : S107) : w108 (c107 x) = w107 x := by
  first | rfl | (simp [w108, c107, w107, Function.comp_def])
theorem cws107 (l : List S107) : (l.map c107).length + ((l.map c107).map w108).sum = l.length + (l.map w107).sum := by
  simp only [List.length_map, List.map_map, Function.comp_def, cw107]
theorem toStepS_to (l : List (S107)) (h : (l.length + (l.map w107).sum) ≤ 1048576) : Ev (fun k => laws_toStepS.f k l) (l.map c107) := by
  have H := to_list (l := l) (L0 := laws_toStepS.l0) (z := z108) (conv := c107) (mk := fun b => (⟨b.1, b.2.1, b.2.2⟩ : S108)) (t := fun x => (x.f0, x.f1, x.f2)) (step := fun k x => laws_toStep.f x.f0 x.f1 x.f2) (rd := rd_T107) (B := 8796093022208) (fun _ _ _ _ => rfl) getD_get (by omega) (by decide) (fun a ha => ⟨toStep_to a.f0 a.f1 a.f2 (mem_w (w := w107) h ha), rfl⟩)
  exact H
theorem eqStep_eq (a0_0 : Int) (a0_1 : Int) (a0_2 : ByteArray) (h : (a0_2.size + 0) ≤ 1048576) : Ev (fun k => laws_eqStep.f a0_0 a0_1 a0_2 a0_0 a0_1 a0_2) true := by
  unfold laws_eqStep.f
  exact (eqf_if (eqf_if (eqf_if eqf_end)))
theorem eqStepS_eq (l : List (S108)) (h : (l.length + (l.map w108).sum) ≤ 1048576) : Ev (fun k => laws_eqStepS.f k l l) true := by
  have H := eq_list (l := l) (L0 := laws_eqStepS.l0) (step := fun k x y => laws_eqStep.f x.f0 x.f1 x.f2 y.f0 y.f1 y.f2) (rd := rd_T108) (fun _ _ _ _ => rfl) getD_get (by omega) (fun a ha => eqStep_eq a.f0 a.f1 a.f2 (mem_w (w := w108) h ha))
  exact H
end Go.Proofs.Ytakelegiamdmaaa.PFnExactFencesIn
