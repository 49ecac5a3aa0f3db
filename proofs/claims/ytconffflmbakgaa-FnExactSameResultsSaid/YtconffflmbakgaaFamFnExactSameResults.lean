/-
  Sizes, copies and comparisons of FnExactSameResults: what the functions sz.., to.., eq.. of the law answer.
-/
import Derived.Test.YtconffflmbakgaaOpenFnExactSameResults
import Derived.Test.YtconffflmbakgaaKit
import Derived.Test.YtconffflmbakgaaQFnExactSameResultsx1
import Derived.Test.YtconffflmbakgaaQFnExactSameResultsx2
import Derived.Test.YtconffflmbakgaaQFnExactSameResultsx3
import Derived.Test.YtconffflmbakgaaQFnExactSameResultsx4
namespace Go.Proofs.Ytconffflmbakgaa.QFnExactSameResults
open Go.RowKit Go.Proofs.YtconffflmbakgaaW.PrintWords Go.Proofs.Ytconffflmbakgaa.Opens Go.Proofs.Ytconffflmbakgaa.Kit
set_option linter.unusedVariables false
set_option linter.unusedSimpArgs false
theorem szStringS_sz (l : List (ByteArray)) (h : (l.length * 16 ≤ 140737488351232 ∧ ∀ y ∈ l, y.size ≤ 140737488351232)) : Szf (fun k a => laws_szStringS.f k l a) (l.length + (l.map ByteArray.size).sum) := by
  have H := szf_list1 (l := l) (L0 := laws_szStringS.l0) (rd := rdOf ByteArray.empty) (fun _ _ _ _ => rfl) rdOf_get (by have := h.1; omega) h.2
  exact H
theorem szResult_sz (a0_0 : Int) (a0_1 : ByteArray) (a0_2 : Int) (a0_3 : Bool) (l0_4 : List (ByteArray)) (h0_1 : a0_1.size ≤ 140737488351232) (h0_4 : (l0_4.length * 16 ≤ 140737488351232 ∧ ∀ y ∈ l0_4, y.size ≤ 140737488351232)) : Szf (fun k a => laws_szResult.f k a0_0 a0_1 a0_2 a0_3 l0_4 a) (a0_1.size + ((l0_4.length + (l0_4.map ByteArray.size).sum) + 0)) := by
  have H := (szf_str h0_1 (szf_seq (szStringS_sz l0_4 h0_4) szf_ret))
  exact H
def w121 (x : S121) : Nat := (x.f1.size + ((x.f4.length + (x.f4.map ByteArray.size).sum) + 0))
theorem szResultS_sz (l : List (S121)) (h : (l.length * 64 ≤ 140737488351232 ∧ ∀ y ∈ l, wf121 y)) : Szf (fun k a => laws_szResultS.f k l a) (l.length + (l.map w121).sum) := by
  have H := szf_list (l := l) (L0 := laws_szResultS.l0) (step := fun k x s => laws_szResult.f k x.f0 x.f1 x.f2 x.f3 x.f4 s) (rd := rd_T121) (fun _ _ _ _ => rfl) getD_get (by have := h.1; omega) (fun a ha => szResult_sz a.f0 a.f1 a.f2 a.f3 a.f4 (h.2 a ha).2.1 (h.2 a ha).2.2.2.2)
  exact H
theorem toStringS_to (l : List (ByteArray)) (h : (l.length + (l.map ByteArray.size).sum) ≤ 1048576) : Ev (fun k => laws_toStringS.f k l) l := by
  have H := to_list1 (l := l) (L0 := laws_toStringS.l0) (z := (⟨#[]⟩ : ByteArray)) (rd := rdOf ByteArray.empty) (B := 17592186044416) (fun _ _ _ _ => rfl) rdOf_get (by omega) (by decide)
  exact H
theorem toResult_to (a0_0 : Int) (a0_1 : ByteArray) (a0_2 : Int) (a0_3 : Bool) (l0_4 : List (ByteArray)) (h : (a0_1.size + ((l0_4.length + (l0_4.map ByteArray.size).sum) + 0)) ≤ 1048576) : Ev (fun k => laws_toResult.f k a0_0 a0_1 a0_2 a0_3 l0_4) (a0_0, a0_1, a0_2, a0_3, l0_4) := by
  unfold laws_toResult.f
  exact (Ev.bind (toStringS_to l0_4 (by omega)) (Ev.now _))
def w102 (x : S102) : Nat := (x.f1.size + ((x.f4.length + (x.f4.map ByteArray.size).sum) + 0))
def c121 (x : S121) : S102 := ⟨x.f0, x.f1, x.f2, x.f3, x.f4⟩
theorem cw121 (x : S121) : w102 (c121 x) = w121 x := by
  first | rfl | (simp [w102, c121, w121, Function.comp_def])
theorem cws121 (l : List S121) : (l.map c121).length + ((l.map c121).map w102).sum = l.length + (l.map w121).sum := by
  simp only [List.length_map, List.map_map, Function.comp_def, cw121]
theorem toResultS_to (l : List (S121)) (h : (l.length + (l.map w121).sum) ≤ 1048576) : Ev (fun k => laws_toResultS.f k l) (l.map c121) := by
  have H := to_list (l := l) (L0 := laws_toResultS.l0) (z := z102) (conv := c121) (mk := fun b => (⟨b.1, b.2.1, b.2.2.1, b.2.2.2.1, b.2.2.2.2⟩ : S102)) (t := fun x => (x.f0, x.f1, x.f2, x.f3, x.f4)) (step := fun k x => laws_toResult.f k x.f0 x.f1 x.f2 x.f3 x.f4) (rd := rd_T121) (B := 4398046511104) (fun _ _ _ _ => rfl) getD_get (by omega) (by decide) (fun a ha => ⟨toResult_to a.f0 a.f1 a.f2 a.f3 a.f4 (mem_w (w := w121) h ha), rfl⟩)
  exact H
theorem eqStringS_eq (l : List (ByteArray)) (h : (l.length + (l.map ByteArray.size).sum) ≤ 1048576) : Ev (fun k => laws_eqStringS.f k l l) true := by
  have H := eq_list1 (l := l) (L0 := laws_eqStringS.l0) (c := fun b : ByteArray => b.toList) (rd := rdOf ByteArray.empty) (fun _ _ _ _ => rfl) rdOf_get (by omega)
  exact H
theorem eqResult_eq (a0_0 : Int) (a0_1 : ByteArray) (a0_2 : Int) (a0_3 : Bool) (l0_4 : List (ByteArray)) (h : (a0_1.size + ((l0_4.length + (l0_4.map ByteArray.size).sum) + 0)) ≤ 1048576) : Ev (fun k => laws_eqResult.f k a0_0 a0_1 a0_2 a0_3 l0_4 a0_0 a0_1 a0_2 a0_3 l0_4) true := by
  unfold laws_eqResult.f
  exact (eqf_if (eqf_if (eqf_if (eqf_bool (eqf_call (eqStringS_eq l0_4 (by omega)) eqf_end)))))
theorem eqResultS_eq (l : List (S102)) (h : (l.length + (l.map w102).sum) ≤ 1048576) : Ev (fun k => laws_eqResultS.f k l l) true := by
  have H := eq_list (l := l) (L0 := laws_eqResultS.l0) (step := fun k x y => laws_eqResult.f k x.f0 x.f1 x.f2 x.f3 x.f4 y.f0 y.f1 y.f2 y.f3 y.f4) (rd := rd_T102) (fun _ _ _ _ => rfl) getD_get (by omega) (fun a ha => eqResult_eq a.f0 a.f1 a.f2 a.f3 a.f4 (mem_w (w := w102) h ha))
  exact H
end Go.Proofs.Ytconffflmbakgaa.QFnExactSameResults
