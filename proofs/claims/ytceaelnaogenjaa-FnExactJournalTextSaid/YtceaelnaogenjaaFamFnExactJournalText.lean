/-
  Sizes, copies and comparisons of FnExactJournalText: what the functions sz.., to.., eq.. of the law answer.
-/
import Derived.Test.YtceaelnaogenjaaOpenFnExactJournalText
import Derived.Test.YtceaelnaogenjaaKit
import Derived.Test.YtceaelnaogenjaaQFnExactJournalTextx1
import Derived.Test.YtceaelnaogenjaaQFnExactJournalTextx2
import Derived.Test.YtceaelnaogenjaaQFnExactJournalTextx3
namespace Go.Proofs.Ytceaelnaogenjaa.QFnExactJournalText
open Go.RowKit Go.Proofs.YtceaelnaogenjaaW.PrintWords Go.Proofs.Ytceaelnaogenjaa.Opens Go.Proofs.Ytceaelnaogenjaa.Kit
set_option linter.unusedVariables false
set_option linter.unusedSimpArgs false
theorem szWrite_sz (a0_0 : Int) (a0_1 : ByteArray) (h0_1 : a0_1.size ≤ 140737488351232) : Szf (fun k a => laws_szWrite.f a0_0 a0_1 a) (a0_1.size + 0) := by
  have H := (szf_str h0_1 szf_ret)
  exact H
def w44 (x : S44) : Nat := (x.f1.size + 0)
theorem szWriteS_sz (l : List (S44)) (h : (l.length * 24 ≤ 140737488351232 ∧ ∀ y ∈ l, wf44 y)) : Szf (fun k a => laws_szWriteS.f k l a) (l.length + (l.map w44).sum) := by
  have H := szf_list (l := l) (L0 := laws_szWriteS.l0) (step := fun k x s => laws_szWrite.f x.f0 x.f1 s) (rd := rd_T44) (fun _ _ _ _ => rfl) getD_get (by have := h.1; omega) (fun a ha => szWrite_sz a.f0 a.f1 (h.2 a ha).2)
  exact H
theorem toWrite_to (a0_0 : Int) (a0_1 : ByteArray) (h : (a0_1.size + 0) ≤ 1048576) : Ev (fun k => laws_toWrite.f a0_0 a0_1) (a0_0, a0_1) := by
  unfold laws_toWrite.f
  exact (Ev.now _)
def w46 (x : S46) : Nat := (x.f1.size + 0)
def c44 (x : S44) : S46 := ⟨x.f0, x.f1⟩
theorem cw44 (x : S44) : w46 (c44 x) = w44 x := by
  first | rfl | (simp [w46, c44, w44, Function.comp_def])
theorem cws44 (l : List S44) : (l.map c44).length + ((l.map c44).map w46).sum = l.length + (l.map w44).sum := by
  simp only [List.length_map, List.map_map, Function.comp_def, cw44]
theorem toWriteS_to (l : List (S44)) (h : (l.length + (l.map w44).sum) ≤ 1048576) : Ev (fun k => laws_toWriteS.f k l) (l.map c44) := by
  have H := to_list (l := l) (L0 := laws_toWriteS.l0) (z := z46) (conv := c44) (mk := fun b => (⟨b.1, b.2⟩ : S46)) (t := fun x => (x.f0, x.f1)) (step := fun k x => laws_toWrite.f x.f0 x.f1) (rd := rd_T44) (B := 11728124029610) (fun _ _ _ _ => rfl) getD_get (by omega) (by decide) (fun a ha => ⟨toWrite_to a.f0 a.f1 (mem_w (w := w44) h ha), rfl⟩)
  exact H
theorem eqWrite_eq (a0_0 : Int) (a0_1 : ByteArray) (h : (a0_1.size + 0) ≤ 1048576) : Ev (fun k => laws_eqWrite.f a0_0 a0_1 a0_0 a0_1) true := by
  unfold laws_eqWrite.f
  exact (eqf_if (eqf_if eqf_end))
theorem eqWriteS_eq (l : List (S46)) (h : (l.length + (l.map w46).sum) ≤ 1048576) : Ev (fun k => laws_eqWriteS.f k l l) true := by
  have H := eq_list (l := l) (L0 := laws_eqWriteS.l0) (step := fun k x y => laws_eqWrite.f x.f0 x.f1 y.f0 y.f1) (rd := rd_T46) (fun _ _ _ _ => rfl) getD_get (by omega) (fun a ha => eqWrite_eq a.f0 a.f1 (mem_w (w := w46) h ha))
  exact H
end Go.Proofs.Ytceaelnaogenjaa.QFnExactJournalText
