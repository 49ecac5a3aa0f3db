/-
  Sizes, copies and comparisons of FnExactMaskedImage: what the functions sz.., to.., eq.. of the law answer.
-/
import Derived.Test.YtconffflmbakgaaOpenFnExactMaskedImage
import Derived.Test.YtconffflmbakgaaVKit
import Derived.Test.YtconffflmbakgaaQFnExactMaskedImagex1
import Derived.Test.YtconffflmbakgaaQFnExactMaskedImagex2
namespace Go.Proofs.Ytconffflmbakgaa.QFnExactMaskedImage
open Go.RowKit Go.Proofs.YtconffflmbakgaaW.PrintWords Go.Proofs.Ytconffflmbakgaa.Opens Go.Proofs.Ytconffflmbakgaa.Kit
set_option linter.unusedVariables false
set_option linter.unusedSimpArgs false
theorem szCell_sz (a0_0 : Int) (a0_1 : ByteArray) (a0_2 : Bool) (h0_1 : a0_1.size ≤ 140737488351232) : Szf (fun k a => laws_szCell.f a0_0 a0_1 a0_2 a) (a0_1.size + 0) := by
  have H := (szf_str h0_1 szf_ret)
  exact H
def w149 (x : S149) : Nat := (x.f1.size + 0)
theorem szCellS_sz (l : List (S149)) (h : (l.length * 32 ≤ 140737488351232 ∧ ∀ y ∈ l, wf149 y)) : Szf (fun k a => laws_szCellS.f k l a) (l.length + (l.map w149).sum) := by
  have H := szf_list (l := l) (L0 := laws_szCellS.l0) (step := fun k x s => laws_szCell.f x.f0 x.f1 x.f2 s) (rd := rd_T149) (fun _ _ _ _ => rfl) getD_get (by have := h.1; omega) (fun a ha => szCell_sz a.f0 a.f1 a.f2 (h.2 a ha).2.1)
  exact H
theorem szMemory_sz (a0_0 : ByteArray) (l0_1 : List (S149)) (h0_0 : a0_0.size ≤ 140737488351232) (h0_1 : (l0_1.length * 32 ≤ 140737488351232 ∧ ∀ y ∈ l0_1, wf149 y)) : Szf (fun k a => laws_szMemory.f k a0_0 l0_1 a) (a0_0.size + ((l0_1.length + (l0_1.map w149).sum) + 0)) := by
  have H := (szf_str h0_0 (szf_seq (szCellS_sz l0_1 h0_1) szf_ret))
  exact H
theorem toGeo_to (a0_0 : Int) (a0_1 : Int) (a0_2 : Int) (a0_3 : Int) (h : 0 ≤ 1048576) : Ev (fun k => laws_toGeo.f a0_0 a0_1 a0_2 a0_3) (a0_0, a0_1, a0_2, a0_3) := by
  unfold laws_toGeo.f
  exact (Ev.now _)
theorem toCell_to (a0_0 : Int) (a0_1 : ByteArray) (a0_2 : Bool) (h : (a0_1.size + 0) ≤ 1048576) : Ev (fun k => laws_toCell.f a0_0 a0_1 a0_2) (a0_0, a0_1, a0_2) := by
  unfold laws_toCell.f
  exact (Ev.now _)
def w155 (x : S155) : Nat := (x.f1.size + 0)
def c149 (x : S149) : S155 := ⟨x.f0, x.f1, x.f2⟩
theorem cw149 (x : S149) : w155 (c149 x) = w149 x := by
  first | rfl | (simp [w155, c149, w149, Function.comp_def])
theorem cws149 (l : List S149) : (l.map c149).length + ((l.map c149).map w155).sum = l.length + (l.map w149).sum := by
  simp only [List.length_map, List.map_map, Function.comp_def, cw149]
theorem toCellS_to (l : List (S149)) (h : (l.length + (l.map w149).sum) ≤ 1048576) : Ev (fun k => laws_toCellS.f k l) (l.map c149) := by
  have H := to_list (l := l) (L0 := laws_toCellS.l0) (z := z155) (conv := c149) (mk := fun b => (⟨b.1, b.2.1, b.2.2⟩ : S155)) (t := fun x => (x.f0, x.f1, x.f2)) (step := fun k x => laws_toCell.f x.f0 x.f1 x.f2) (rd := rd_T149) (B := 8796093022208) (fun _ _ _ _ => rfl) getD_get (by omega) (by decide) (fun a ha => ⟨toCell_to a.f0 a.f1 a.f2 (mem_w (w := w149) h ha), rfl⟩)
  exact H
theorem toMemory_to (a0_0 : ByteArray) (l0_1 : List (S149)) (h : (a0_0.size + ((l0_1.length + (l0_1.map w149).sum) + 0)) ≤ 1048576) : Ev (fun k => laws_toMemory.f k a0_0 l0_1) (a0_0, l0_1.map c149) := by
  unfold laws_toMemory.f
  exact (Ev.bind (toCellS_to l0_1 (by omega)) (Ev.now _))
theorem eqCell_eq (a0_0 : Int) (a0_1 : ByteArray) (a0_2 : Bool) (h : (a0_1.size + 0) ≤ 1048576) : Ev (fun k => laws_eqCell.f a0_0 a0_1 a0_2 a0_0 a0_1 a0_2) true := by
  unfold laws_eqCell.f
  exact (eqf_if (eqf_if (eqf_bool eqf_end)))
theorem eqCellS_eq (l : List (S155)) (h : (l.length + (l.map w155).sum) ≤ 1048576) : Ev (fun k => laws_eqCellS.f k l l) true := by
  have H := eq_list (l := l) (L0 := laws_eqCellS.l0) (step := fun k x y => laws_eqCell.f x.f0 x.f1 x.f2 y.f0 y.f1 y.f2) (rd := rd_T155) (fun _ _ _ _ => rfl) getD_get (by omega) (fun a ha => eqCell_eq a.f0 a.f1 a.f2 (mem_w (w := w155) h ha))
  exact H
theorem eqMemory_eq (a0_0 : ByteArray) (l0_1 : List (S155)) (h : (a0_0.size + ((l0_1.length + (l0_1.map w155).sum) + 0)) ≤ 1048576) : Ev (fun k => laws_eqMemory.f k a0_0 l0_1 a0_0 l0_1) true := by
  unfold laws_eqMemory.f
  exact (eqf_if (eqf_call (eqCellS_eq l0_1 (by omega)) eqf_end))
end Go.Proofs.Ytconffflmbakgaa.QFnExactMaskedImage
