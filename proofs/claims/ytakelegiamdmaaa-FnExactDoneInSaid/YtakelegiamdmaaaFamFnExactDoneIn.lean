/-
  Sizes, copies and comparisons of FnExactDoneIn: what the functions sz.., to.., eq.. of the law answer.
-/
import Derived.Test.YtakelegiamdmaaaOpenFnExactDoneIn
import Derived.Test.YtakelegiamdmaaaKit
import Derived.Test.YtakelegiamdmaaaPFnExactDoneInx2
import Derived.Test.YtakelegiamdmaaaQFnExactDoneInx1
import Derived.Test.YtakelegiamdmaaaQFnExactDoneInx3
namespace Go.Proofs.Ytakelegiamdmaaa.PFnExactDoneIn
open Go.RowKit Go.Proofs.YtakelegiamdmaaaW.PrintWords Go.Proofs.Ytakelegiamdmaaa.Opens Go.Proofs.Ytakelegiamdmaaa.Kit
set_option linter.unusedVariables false
set_option linter.unusedSimpArgs false
theorem szStringS_sz (l : List (ByteArray)) (h : (l.length * 16 ≤ 140737488351232 ∧ ∀ y ∈ l, y.size ≤ 140737488351232)) : Szf (fun k a => laws_szStringS.f k l a) (l.length + (l.map ByteArray.size).sum) := by
  have H := szf_list1 (l := l) (L0 := laws_szStringS.l0) (rd := rdOf ByteArray.empty) (fun _ _ _ _ => rfl) rdOf_get (by have := h.1; omega) h.2
  exact H
theorem szResult_sz (a0_0 : Int) (a0_1 : ByteArray) (a0_2 : Int) (a0_3 : Bool) (l0_4 : List (ByteArray)) (h0_1 : a0_1.size ≤ 140737488351232) (h0_4 : (l0_4.length * 16 ≤ 140737488351232 ∧ ∀ y ∈ l0_4, y.size ≤ 140737488351232)) : Szf (fun k a => laws_szResult.f k a0_0 a0_1 a0_2 a0_3 l0_4 a) (a0_1.size + ((l0_4.length + (l0_4.map ByteArray.size).sum) + 0)) := by
  have H := (szf_str h0_1 (szf_seq (szStringS_sz l0_4 h0_4) szf_ret))
  exact H
theorem szTold_sz (a0_0 : Int) (a0_1 : Int) (a0_2 : Bool) (a0_3 : Int) (a0_4 : ByteArray) (a0_5 : Int) (a0_6 : Bool) (l0_7 : List (ByteArray)) (h0_4 : a0_4.size ≤ 140737488351232) (h0_7 : (l0_7.length * 16 ≤ 140737488351232 ∧ ∀ y ∈ l0_7, y.size ≤ 140737488351232)) : Szf (fun k a => laws_szTold.f k a0_0 a0_1 a0_2 a0_3 a0_4 a0_5 a0_6 l0_7 a) ((a0_4.size + ((l0_7.length + (l0_7.map ByteArray.size).sum) + 0)) + 0) := by
  have H := (szf_seq (szResult_sz a0_3 a0_4 a0_5 a0_6 l0_7 h0_4 h0_7) szf_ret)
  exact H
def w46 (x : S46) : Nat := (x.f1.size + ((x.f4.length + (x.f4.map ByteArray.size).sum) + 0))
def w131 (x : S131) : Nat := ((x.f3.f1.size + ((x.f3.f4.length + (x.f3.f4.map ByteArray.size).sum) + 0)) + 0)
theorem szToldS_sz (l : List (S131)) (h : (l.length * 88 ≤ 140737488351232 ∧ ∀ y ∈ l, wf131 y)) : Szf (fun k a => laws_szToldS.f k l a) (l.length + (l.map w131).sum) := by
  have H := szf_list (l := l) (L0 := laws_szToldS.l0) (step := fun k x s => laws_szTold.f k x.f0 x.f1 x.f2 x.f3.f0 x.f3.f1 x.f3.f2 x.f3.f3 x.f3.f4 s) (rd := rd_T131) (fun _ _ _ _ => rfl) getD_get (by have := h.1; omega) (fun a ha => szTold_sz a.f0 a.f1 a.f2 a.f3.f0 a.f3.f1 a.f3.f2 a.f3.f3 a.f3.f4 (h.2 a ha).2.2.2.2.1 (h.2 a ha).2.2.2.2.2.2.2)
  exact H
theorem toStringS_to (l : List (ByteArray)) (h : (l.length + (l.map ByteArray.size).sum) ≤ 1048576) : Ev (fun k => laws_toStringS.f k l) l := by
  have H := to_list1 (l := l) (L0 := laws_toStringS.l0) (z := (⟨#[]⟩ : ByteArray)) (rd := rdOf ByteArray.empty) (B := 17592186044416) (fun _ _ _ _ => rfl) rdOf_get (by omega) (by decide)
  exact H
theorem toResult_to (a0_0 : Int) (a0_1 : ByteArray) (a0_2 : Int) (a0_3 : Bool) (l0_4 : List (ByteArray)) (h : (a0_1.size + ((l0_4.length + (l0_4.map ByteArray.size).sum) + 0)) ≤ 1048576) : Ev (fun k => laws_toResult.f k a0_0 a0_1 a0_2 a0_3 l0_4) (a0_0, a0_1, a0_2, a0_3, l0_4) := by
  unfold laws_toResult.f
  exact (Ev.bind (toStringS_to l0_4 (by omega)) (Ev.now _))
theorem toTold_to (a0_0 : Int) (a0_1 : Int) (a0_2 : Bool) (a0_3 : Int) (a0_4 : ByteArray) (a0_5 : Int) (a0_6 : Bool) (l0_7 : List (ByteArray)) (h : ((a0_4.size + ((l0_7.length + (l0_7.map ByteArray.size).sum) + 0)) + 0) ≤ 1048576) : Ev (fun k => laws_toTold.f k a0_0 a0_1 a0_2 a0_3 a0_4 a0_5 a0_6 l0_7) (a0_0, a0_1, a0_2, a0_3, a0_4, a0_5, a0_6, l0_7) := by
  unfold laws_toTold.f
  exact (Ev.bind (toResult_to a0_3 a0_4 a0_5 a0_6 l0_7 (by omega)) (Ev.now _))
def w49 (x : S49) : Nat := (x.f1.size + ((x.f4.length + (x.f4.map ByteArray.size).sum) + 0))
def c46 (x : S46) : S49 := ⟨x.f0, x.f1, x.f2, x.f3, x.f4⟩
theorem cw46 (x : S46) : w49 (c46 x) = w46 x := by
  first | rfl | (simp [w49, c46, w46, Function.comp_def])
theorem cws46 (l : List S46) : (l.map c46).length + ((l.map c46).map w49).sum = l.length + (l.map w46).sum := by
  simp only [List.length_map, List.map_map, Function.comp_def, cw46]
def w133 (x : S133) : Nat := ((x.f3.f1.size + ((x.f3.f4.length + (x.f3.f4.map ByteArray.size).sum) + 0)) + 0)
def c131 (x : S131) : S133 := ⟨x.f0, x.f1, x.f2, (⟨x.f3.f0, x.f3.f1, x.f3.f2, x.f3.f3, x.f3.f4⟩ : S49)⟩
theorem cw131 (x : S131) : w133 (c131 x) = w131 x := by
  first | rfl | (simp [w133, c131, w131, Function.comp_def])
theorem cws131 (l : List S131) : (l.map c131).length + ((l.map c131).map w133).sum = l.length + (l.map w131).sum := by
  simp only [List.length_map, List.map_map, Function.comp_def, cw131]
theorem toToldS_to (l : List (S131)) (h : (l.length + (l.map w131).sum) ≤ 1048576) : Ev (fun k => laws_toToldS.f k l) (l.map c131) := by
  have H := to_list (l := l) (L0 := laws_toToldS.l0) (z := z133) (conv := c131) (mk := fun b => (⟨b.1, b.2.1, b.2.2.1, (⟨b.2.2.2.1, b.2.2.2.2.1, b.2.2.2.2.2.1, b.2.2.2.2.2.2.1, b.2.2.2.2.2.2.2⟩ : S49)⟩ : S133)) (t := fun x => (x.f0, x.f1, x.f2, x.f3.f0, x.f3.f1, x.f3.f2, x.f3.f3, x.f3.f4)) (step := fun k x => laws_toTold.f k x.f0 x.f1 x.f2 x.f3.f0 x.f3.f1 x.f3.f2 x.f3.f3 x.f3.f4) (rd := rd_T131) (B := 3198579280802) (fun _ _ _ _ => rfl) getD_get (by omega) (by decide) (fun a ha => ⟨toTold_to a.f0 a.f1 a.f2 a.f3.f0 a.f3.f1 a.f3.f2 a.f3.f3 a.f3.f4 (mem_w (w := w131) h ha), rfl⟩)
  exact H
theorem eqStringS_eq (l : List (ByteArray)) (h : (l.length + (l.map ByteArray.size).sum) ≤ 1048576) : Ev (fun k => laws_eqStringS.f k l l) true := by
  have H := eq_list1 (l := l) (L0 := laws_eqStringS.l0) (c := fun b : ByteArray => b.toList) (rd := rdOf ByteArray.empty) (fun _ _ _ _ => rfl) rdOf_get (by omega)
  exact H
theorem eqResult_eq (a0_0 : Int) (a0_1 : ByteArray) (a0_2 : Int) (a0_3 : Bool) (l0_4 : List (ByteArray)) (h : (a0_1.size + ((l0_4.length + (l0_4.map ByteArray.size).sum) + 0)) ≤ 1048576) : Ev (fun k => laws_eqResult.f k a0_0 a0_1 a0_2 a0_3 l0_4 a0_0 a0_1 a0_2 a0_3 l0_4) true := by
  unfold laws_eqResult.f
  exact (eqf_if (eqf_if (eqf_if (eqf_bool (eqf_call (eqStringS_eq l0_4 (by omega)) eqf_end)))))
theorem eqTold_eq (a0_0 : Int) (a0_1 : Int) (a0_2 : Bool) (a0_3 : Int) (a0_4 : ByteArray) (a0_5 : Int) (a0_6 : Bool) (l0_7 : List (ByteArray)) (h : ((a0_4.size + ((l0_7.length + (l0_7.map ByteArray.size).sum) + 0)) + 0) ≤ 1048576) : Ev (fun k => laws_eqTold.f k a0_0 a0_1 a0_2 a0_3 a0_4 a0_5 a0_6 l0_7 a0_0 a0_1 a0_2 a0_3 a0_4 a0_5 a0_6 l0_7) true := by
  unfold laws_eqTold.f
  exact (eqf_if (eqf_if (eqf_bool (eqf_call (eqResult_eq a0_3 a0_4 a0_5 a0_6 l0_7 (by omega)) eqf_end))))
theorem eqToldS_eq (l : List (S133)) (h : (l.length + (l.map w133).sum) ≤ 1048576) : Ev (fun k => laws_eqToldS.f k l l) true := by
  have H := eq_list (l := l) (L0 := laws_eqToldS.l0) (step := fun k x y => laws_eqTold.f k x.f0 x.f1 x.f2 x.f3.f0 x.f3.f1 x.f3.f2 x.f3.f3 x.f3.f4 y.f0 y.f1 y.f2 y.f3.f0 y.f3.f1 y.f3.f2 y.f3.f3 y.f3.f4) (rd := rd_T133) (fun _ _ _ _ => rfl) getD_get (by omega) (fun a ha => eqTold_eq a.f0 a.f1 a.f2 a.f3.f0 a.f3.f1 a.f3.f2 a.f3.f3 a.f3.f4 (mem_w (w := w133) h ha))
  exact H
end Go.Proofs.Ytakelegiamdmaaa.PFnExactDoneIn
