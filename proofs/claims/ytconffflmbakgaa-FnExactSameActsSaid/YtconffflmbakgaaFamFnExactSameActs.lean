/-
  Sizes, copies and comparisons of FnExactSameActs: what the functions sz.., to.., eq.. of the law answer.
-/
import Derived.Test.YtconffflmbakgaaOpenFnExactSameActs
import Derived.Test.YtconffflmbakgaaKit
import Derived.Test.YtconffflmbakgaaQFnExactSameActsx3
import Derived.Test.YtconffflmbakgaaQFnExactSameActsx4
import Derived.Test.YtconffflmbakgaaQFnExactSameActsx5
namespace Go.Proofs.Ytconffflmbakgaa.QFnExactSameActs
open Go.RowKit Go.Proofs.YtconffflmbakgaaW.PrintWords Go.Proofs.Ytconffflmbakgaa.Opens Go.Proofs.Ytconffflmbakgaa.Kit
set_option linter.unusedVariables false
set_option linter.unusedSimpArgs false
theorem szAsk_sz (a0_0 : Int) (a0_1 : ByteArray) (a0_2 : ByteArray) (a0_3 : Int) (a0_4 : Int) (a0_5 : ByteArray) (h0_1 : a0_1.size ≤ 140737488351232) (h0_2 : a0_2.size ≤ 140737488351232) (h0_5 : a0_5.size ≤ 140737488351232) : Szf (fun k a => laws_szAsk.f a0_0 a0_1 a0_2 a0_3 a0_4 a0_5 a) (a0_1.size + (a0_2.size + (a0_5.size + 0))) := by
  have H := (szf_str h0_1 (szf_str h0_2 (szf_str h0_5 szf_ret)))
  exact H
theorem szAct_sz (a0_0 : Int) (a0_1 : Int) (a0_2 : Int) (a0_3 : ByteArray) (a0_4 : ByteArray) (a0_5 : Int) (a0_6 : Int) (a0_7 : ByteArray) (a0_8 : Int) (h0_3 : a0_3.size ≤ 140737488351232) (h0_4 : a0_4.size ≤ 140737488351232) (h0_7 : a0_7.size ≤ 140737488351232) : Szf (fun k a => laws_szAct.f a0_0 a0_1 a0_2 a0_3 a0_4 a0_5 a0_6 a0_7 a0_8 a) ((a0_3.size + (a0_4.size + (a0_7.size + 0))) + 0) := by
  have H := (szf_seq (szAsk_sz a0_2 a0_3 a0_4 a0_5 a0_6 a0_7 h0_3 h0_4 h0_7) szf_ret)
  exact H
def w126 (x : S126) : Nat := (x.f1.size + (x.f2.size + (x.f5.size + 0)))
def w128 (x : S128) : Nat := ((x.f2.f1.size + (x.f2.f2.size + (x.f2.f5.size + 0))) + 0)
theorem szActS_sz (l : List (S128)) (h : (l.length * 96 ≤ 140737488351232 ∧ ∀ y ∈ l, wf128 y)) : Szf (fun k a => laws_szActS.f k l a) (l.length + (l.map w128).sum) := by
  have H := szf_list (l := l) (L0 := laws_szActS.l0) (step := fun k x s => laws_szAct.f x.f0 x.f1 x.f2.f0 x.f2.f1 x.f2.f2 x.f2.f3 x.f2.f4 x.f2.f5 x.f3 s) (rd := rd_T128) (fun _ _ _ _ => rfl) getD_get (by have := h.1; omega) (fun a ha => szAct_sz a.f0 a.f1 a.f2.f0 a.f2.f1 a.f2.f2 a.f2.f3 a.f2.f4 a.f2.f5 a.f3 (h.2 a ha).2.2.1.2.1 (h.2 a ha).2.2.1.2.2.1 (h.2 a ha).2.2.1.2.2.2.2.2)
  exact H
theorem toAsk_to (a0_0 : Int) (a0_1 : ByteArray) (a0_2 : ByteArray) (a0_3 : Int) (a0_4 : Int) (a0_5 : ByteArray) (h : (a0_1.size + (a0_2.size + (a0_5.size + 0))) ≤ 1048576) : Ev (fun k => laws_toAsk.f a0_0 a0_1 a0_2 a0_3 a0_4 a0_5) (a0_0, a0_1, a0_2, a0_3, a0_4, a0_5) := by
  unfold laws_toAsk.f
  exact (Ev.now _)
theorem toAct_to (a0_0 : Int) (a0_1 : Int) (a0_2 : Int) (a0_3 : ByteArray) (a0_4 : ByteArray) (a0_5 : Int) (a0_6 : Int) (a0_7 : ByteArray) (a0_8 : Int) (h : ((a0_3.size + (a0_4.size + (a0_7.size + 0))) + 0) ≤ 1048576) : Ev (fun k => laws_toAct.f a0_0 a0_1 a0_2 a0_3 a0_4 a0_5 a0_6 a0_7 a0_8) (a0_0, a0_1, a0_2, a0_3, a0_4, a0_5, a0_6, a0_7, a0_8) := by
  unfold laws_toAct.f
  exact (Ev.bind (toAsk_to a0_2 a0_3 a0_4 a0_5 a0_6 a0_7 (by omega)) (Ev.now _))
def w99 (x : S99) : Nat := (x.f1.size + (x.f2.size + (x.f5.size + 0)))
def c126 (x : S126) : S99 := ⟨x.f0, x.f1, x.f2, x.f3, x.f4, x.f5⟩
theorem cw126 (x : S126) : w99 (c126 x) = w126 x := by
  first | rfl | (simp [w99, c126, w126, Function.comp_def])
theorem cws126 (l : List S126) : (l.map c126).length + ((l.map c126).map w99).sum = l.length + (l.map w126).sum := by
  simp only [List.length_map, List.map_map, Function.comp_def, cw126]
def w130 (x : S130) : Nat := ((x.f2.f1.size + (x.f2.f2.size + (x.f2.f5.size + 0))) + 0)
def c128 (x : S128) : S130 := ⟨x.f0, x.f1, (⟨x.f2.f0, x.f2.f1, x.f2.f2, x.f2.f3, x.f2.f4, x.f2.f5⟩ : S99), x.f3⟩
theorem cw128 (x : S128) : w130 (c128 x) = w128 x := by
  first | rfl | (simp [w130, c128, w128, Function.comp_def])
theorem cws128 (l : List S128) : (l.map c128).length + ((l.map c128).map w130).sum = l.length + (l.map w128).sum := by
  simp only [List.length_map, List.map_map, Function.comp_def, cw128]
theorem toActS_to (l : List (S128)) (h : (l.length + (l.map w128).sum) ≤ 1048576) : Ev (fun k => laws_toActS.f k l) (l.map c128) := by
  have H := to_list (l := l) (L0 := laws_toActS.l0) (z := z130) (conv := c128) (mk := fun b => (⟨b.1, b.2.1, (⟨b.2.2.1, b.2.2.2.1, b.2.2.2.2.1, b.2.2.2.2.2.1, b.2.2.2.2.2.2.1, b.2.2.2.2.2.2.2.1⟩ : S99), b.2.2.2.2.2.2.2.2⟩ : S130)) (t := fun x => (x.f0, x.f1, x.f2.f0, x.f2.f1, x.f2.f2, x.f2.f3, x.f2.f4, x.f2.f5, x.f3)) (step := fun k x => laws_toAct.f x.f0 x.f1 x.f2.f0 x.f2.f1 x.f2.f2 x.f2.f3 x.f2.f4 x.f2.f5 x.f3) (rd := rd_T128) (B := 2932031007402) (fun _ _ _ _ => rfl) getD_get (by omega) (by decide) (fun a ha => ⟨toAct_to a.f0 a.f1 a.f2.f0 a.f2.f1 a.f2.f2 a.f2.f3 a.f2.f4 a.f2.f5 a.f3 (mem_w (w := w128) h ha), rfl⟩)
  exact H
theorem eqAsk_eq (a0_0 : Int) (a0_1 : ByteArray) (a0_2 : ByteArray) (a0_3 : Int) (a0_4 : Int) (a0_5 : ByteArray) (h : (a0_1.size + (a0_2.size + (a0_5.size + 0))) ≤ 1048576) : Ev (fun k => laws_eqAsk.f a0_0 a0_1 a0_2 a0_3 a0_4 a0_5 a0_0 a0_1 a0_2 a0_3 a0_4 a0_5) true := by
  unfold laws_eqAsk.f
  exact (eqf_if (eqf_if (eqf_if (eqf_if (eqf_if (eqf_if eqf_end))))))
theorem eqAct_eq (a0_0 : Int) (a0_1 : Int) (a0_2 : Int) (a0_3 : ByteArray) (a0_4 : ByteArray) (a0_5 : Int) (a0_6 : Int) (a0_7 : ByteArray) (a0_8 : Int) (h : ((a0_3.size + (a0_4.size + (a0_7.size + 0))) + 0) ≤ 1048576) : Ev (fun k => laws_eqAct.f a0_0 a0_1 a0_2 a0_3 a0_4 a0_5 a0_6 a0_7 a0_8 a0_0 a0_1 a0_2 a0_3 a0_4 a0_5 a0_6 a0_7 a0_8) true := by
  unfold laws_eqAct.f
  exact (eqf_if (eqf_if (eqf_call (eqAsk_eq a0_2 a0_3 a0_4 a0_5 a0_6 a0_7 (by omega)) (eqf_if eqf_end))))
theorem eqActS_eq (l : List (S130)) (h : (l.length + (l.map w130).sum) ≤ 1048576) : Ev (fun k => laws_eqActS.f k l l) true := by
  have H := eq_list (l := l) (L0 := laws_eqActS.l0) (step := fun k x y => laws_eqAct.f x.f0 x.f1 x.f2.f0 x.f2.f1 x.f2.f2 x.f2.f3 x.f2.f4 x.f2.f5 x.f3 y.f0 y.f1 y.f2.f0 y.f2.f1 y.f2.f2 y.f2.f3 y.f2.f4 y.f2.f5 y.f3) (rd := rd_T130) (fun _ _ _ _ => rfl) getD_get (by omega) (fun a ha => eqAct_eq a.f0 a.f1 a.f2.f0 a.f2.f1 a.f2.f2 a.f2.f3 a.f2.f4 a.f2.f5 a.f3 (mem_w (w := w130) h ha))
  exact H
end Go.Proofs.Ytconffflmbakgaa.QFnExactSameActs
