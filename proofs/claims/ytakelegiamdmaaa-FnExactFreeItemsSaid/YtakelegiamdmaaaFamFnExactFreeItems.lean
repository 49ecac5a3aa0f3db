/-
  Sizes, copies and comparisons of FnExactFreeItems: what the functions sz.., to.., eq.. of the law answer.
-/
import Derived.Test.YtakelegiamdmaaaOpenFnExactFreeItems
import Derived.Test.YtakelegiamdmaaaKit
import Derived.Test.YtakelegiamdmaaaPFnExactFreeItemsx1
import Derived.Test.YtakelegiamdmaaaPFnExactFreeItemsx2
namespace Go.Proofs.Ytakelegiamdmaaa.PFnExactFreeItems
open Go.RowKit Go.Proofs.YtakelegiamdmaaaW.PrintWords Go.Proofs.Ytakelegiamdmaaa.Opens Go.Proofs.Ytakelegiamdmaaa.Kit
set_option linter.unusedVariables false
set_option linter.unusedSimpArgs false
theorem szItem_sz (a0_0 : ByteArray) (a0_1 : Bool) (a0_2 : ByteArray) (h0_0 : a0_0.size ≤ 140737488351232) (h0_2 : a0_2.size ≤ 140737488351232) : Szf (fun k a => laws_szItem.f a0_0 a0_1 a0_2 a) (a0_0.size + (a0_2.size + 0)) := by
  have H := (szf_str h0_0 (szf_str h0_2 szf_ret))
  exact H
def w145 (x : S145) : Nat := (x.f0.size + (x.f2.size + 0))
theorem szItemS_sz (l : List (S145)) (h : (l.length * 40 ≤ 140737488351232 ∧ ∀ y ∈ l, wf145 y)) : Szf (fun k a => laws_szItemS.f k l a) (l.length + (l.map w145).sum) := by
  have H := szf_list (l := l) (L0 := laws_szItemS.l0) (step := fun k x s => laws_szItem.f x.f0 x.f1 x.f2 s) (rd := rd_T145) (fun _ _ _ _ => rfl) getD_get (by have := h.1; omega) (fun a ha => szItem_sz a.f0 a.f1 a.f2 (h.2 a ha).1 (h.2 a ha).2.2)
  exact H
theorem szView_sz (l0_0 : List (S145)) (h0_0 : (l0_0.length * 40 ≤ 140737488351232 ∧ ∀ y ∈ l0_0, wf145 y)) : Szf (fun k a => laws_szView.f k l0_0 a) ((l0_0.length + (l0_0.map w145).sum) + 0) := by
  have H := (szf_seq (szItemS_sz l0_0 h0_0) szf_ret)
  exact H
theorem toGeo_to (a0_0 : Int) (a0_1 : Int) (a0_2 : Int) (a0_3 : Int) (h : 0 ≤ 1048576) : Ev (fun k => laws_toGeo.f a0_0 a0_1 a0_2 a0_3) (a0_0, a0_1, a0_2, a0_3) := by
  unfold laws_toGeo.f
  exact (Ev.now _)
theorem toItem_to (a0_0 : ByteArray) (a0_1 : Bool) (a0_2 : ByteArray) (h : (a0_0.size + (a0_2.size + 0)) ≤ 1048576) : Ev (fun k => laws_toItem.f a0_0 a0_1 a0_2) (a0_0, a0_1, a0_2) := by
  unfold laws_toItem.f
  exact (Ev.now _)
def w146 (x : S146) : Nat := (x.f0.size + (x.f2.size + 0))
def c145 (x : S145) : S146 := ⟨x.f0, x.f1, x.f2⟩
theorem cw145 (x : S145) : w146 (c145 x) = w145 x := by
  first | rfl | (simp [w146, c145, w145, Function.comp_def])
theorem cws145 (l : List S145) : (l.map c145).length + ((l.map c145).map w146).sum = l.length + (l.map w145).sum := by
  simp only [List.length_map, List.map_map, Function.comp_def, cw145]
theorem toItemS_to (l : List (S145)) (h : (l.length + (l.map w145).sum) ≤ 1048576) : Ev (fun k => laws_toItemS.f k l) (l.map c145) := by
  have H := to_list (l := l) (L0 := laws_toItemS.l0) (z := z146) (conv := c145) (mk := fun b => (⟨b.1, b.2.1, b.2.2⟩ : S146)) (t := fun x => (x.f0, x.f1, x.f2)) (step := fun k x => laws_toItem.f x.f0 x.f1 x.f2) (rd := rd_T145) (B := 7036874417766) (fun _ _ _ _ => rfl) getD_get (by omega) (by decide) (fun a ha => ⟨toItem_to a.f0 a.f1 a.f2 (mem_w (w := w145) h ha), rfl⟩)
  exact H
theorem toView_to (l0_0 : List (S145)) (h : ((l0_0.length + (l0_0.map w145).sum) + 0) ≤ 1048576) : Ev (fun k => laws_toView.f k l0_0) (l0_0.map c145) := by
  unfold laws_toView.f
  exact (Ev.bind (toItemS_to l0_0 (by omega)) (Ev.now _))
theorem eqItem_eq (a0_0 : ByteArray) (a0_1 : Bool) (a0_2 : ByteArray) (h : (a0_0.size + (a0_2.size + 0)) ≤ 1048576) : Ev (fun k => laws_eqItem.f a0_0 a0_1 a0_2 a0_0 a0_1 a0_2) true := by
  unfold laws_eqItem.f
  exact (eqf_if (eqf_bool (eqf_if eqf_end)))
theorem eqItemS_eq (l : List (S146)) (h : (l.length + (l.map w146).sum) ≤ 1048576) : Ev (fun k => laws_eqItemS.f k l l) true := by
  have H := eq_list (l := l) (L0 := laws_eqItemS.l0) (step := fun k x y => laws_eqItem.f x.f0 x.f1 x.f2 y.f0 y.f1 y.f2) (rd := rd_T146) (fun _ _ _ _ => rfl) getD_get (by omega) (fun a ha => eqItem_eq a.f0 a.f1 a.f2 (mem_w (w := w146) h ha))
  exact H
theorem eqView_eq (l0_0 : List (S146)) (h : ((l0_0.length + (l0_0.map w146).sum) + 0) ≤ 1048576) : Ev (fun k => laws_eqView.f k l0_0 l0_0) true := by
  unfold laws_eqView.f
  exact (eqf_call (eqItemS_eq l0_0 (by omega)) eqf_end)
end Go.Proofs.Ytakelegiamdmaaa.PFnExactFreeItems
