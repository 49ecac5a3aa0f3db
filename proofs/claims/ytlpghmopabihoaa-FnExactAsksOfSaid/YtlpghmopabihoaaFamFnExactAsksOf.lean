/-
  Sizes, copies and comparisons of FnExactAsksOf: what the functions sz.., to.., eq.. of the law answer.
-/
import Derived.Test.YtlpghmopabihoaaOpenFnExactAsksOf
import Derived.Test.YtlpghmopabihoaaVKit
import Derived.Test.YtlpghmopabihoaaQFnExactAsksOfx1
import Derived.Test.YtlpghmopabihoaaQFnExactAsksOfx3
import Derived.Test.YtlpghmopabihoaaQFnExactAsksOfx5
import Derived.Test.YtlpghmopabihoaaQFnExactAsksOfx6
import Derived.Test.YtlpghmopabihoaaQFnExactAsksOfx7
import Derived.Test.YtlpghmopabihoaaQFnExactAsksOfx8
import Derived.Test.YtlpghmopabihoaaQFnExactAsksOfx9
namespace Go.Proofs.Ytlpghmopabihoaa.QFnExactAsksOf
open Go.RowKit Go.Proofs.YtlpghmopabihoaaW.PrintWords Go.Proofs.Ytlpghmopabihoaa.Opens Go.Proofs.Ytlpghmopabihoaa.Kit
set_option linter.unusedVariables false
set_option linter.unusedSimpArgs false
theorem szAsk_sz (a0_0 : Int) (a0_1 : ByteArray) (a0_2 : ByteArray) (a0_3 : Int) (a0_4 : Int) (a0_5 : ByteArray) (h0_1 : a0_1.size ≤ 140737488351232) (h0_2 : a0_2.size ≤ 140737488351232) (h0_5 : a0_5.size ≤ 140737488351232) : Szf (fun k a => laws_szAsk.f a0_0 a0_1 a0_2 a0_3 a0_4 a0_5 a) (a0_1.size + (a0_2.size + (a0_5.size + 0))) := by
  have H := (szf_str h0_1 (szf_str h0_2 (szf_str h0_5 szf_ret)))
  exact H
theorem szAct_sz (a0_0 : Int) (a0_1 : Int) (a0_2 : Int) (a0_3 : ByteArray) (a0_4 : ByteArray) (a0_5 : Int) (a0_6 : Int) (a0_7 : ByteArray) (a0_8 : Int) (h0_3 : a0_3.size ≤ 140737488351232) (h0_4 : a0_4.size ≤ 140737488351232) (h0_7 : a0_7.size ≤ 140737488351232) : Szf (fun k a => laws_szAct.f a0_0 a0_1 a0_2 a0_3 a0_4 a0_5 a0_6 a0_7 a0_8 a) ((a0_3.size + (a0_4.size + (a0_7.size + 0))) + 0) := by
  have H := (szf_seq (szAsk_sz a0_2 a0_3 a0_4 a0_5 a0_6 a0_7 h0_3 h0_4 h0_7) szf_ret)
  exact H
def w115 (x : S115) : Nat := (x.f1.size + (x.f2.size + (x.f5.size + 0)))
def w117 (x : S117) : Nat := ((x.f2.f1.size + (x.f2.f2.size + (x.f2.f5.size + 0))) + 0)
theorem szActS_sz (l : List (S117)) (h : (l.length * 96 ≤ 140737488351232 ∧ ∀ y ∈ l, wf117 y)) : Szf (fun k a => laws_szActS.f k l a) (l.length + (l.map w117).sum) := by
  have H := szf_list (l := l) (L0 := laws_szActS.l0) (step := fun k x s => laws_szAct.f x.f0 x.f1 x.f2.f0 x.f2.f1 x.f2.f2 x.f2.f3 x.f2.f4 x.f2.f5 x.f3 s) (rd := rd_T117) (fun _ _ _ _ => rfl) getD_get (by have := h.1; omega) (fun a ha => szAct_sz a.f0 a.f1 a.f2.f0 a.f2.f1 a.f2.f2 a.f2.f3 a.f2.f4 a.f2.f5 a.f3 (h.2 a ha).2.2.1.2.1 (h.2 a ha).2.2.1.2.2.1 (h.2 a ha).2.2.1.2.2.2.2.2)
  exact H
theorem szStringS_sz (l : List (ByteArray)) (h : (l.length * 16 ≤ 140737488351232 ∧ ∀ y ∈ l, y.size ≤ 140737488351232)) : Szf (fun k a => laws_szStringS.f k l a) (l.length + (l.map ByteArray.size).sum) := by
  have H := szf_list1 (l := l) (L0 := laws_szStringS.l0) (rd := rdOf ByteArray.empty) (fun _ _ _ _ => rfl) rdOf_get (by have := h.1; omega) h.2
  exact H
theorem szResult_sz (a0_0 : Int) (a0_1 : ByteArray) (a0_2 : Int) (a0_3 : Bool) (l0_4 : List (ByteArray)) (h0_1 : a0_1.size ≤ 140737488351232) (h0_4 : (l0_4.length * 16 ≤ 140737488351232 ∧ ∀ y ∈ l0_4, y.size ≤ 140737488351232)) : Szf (fun k a => laws_szResult.f k a0_0 a0_1 a0_2 a0_3 l0_4 a) (a0_1.size + ((l0_4.length + (l0_4.map ByteArray.size).sum) + 0)) := by
  have H := (szf_str h0_1 (szf_seq (szStringS_sz l0_4 h0_4) szf_ret))
  exact H
theorem szTold_sz (a0_0 : Int) (a0_1 : Int) (a0_2 : Bool) (a0_3 : Int) (a0_4 : ByteArray) (a0_5 : Int) (a0_6 : Bool) (l0_7 : List (ByteArray)) (h0_4 : a0_4.size ≤ 140737488351232) (h0_7 : (l0_7.length * 16 ≤ 140737488351232 ∧ ∀ y ∈ l0_7, y.size ≤ 140737488351232)) : Szf (fun k a => laws_szTold.f k a0_0 a0_1 a0_2 a0_3 a0_4 a0_5 a0_6 l0_7 a) ((a0_4.size + ((l0_7.length + (l0_7.map ByteArray.size).sum) + 0)) + 0) := by
  have H := (szf_seq (szResult_sz a0_3 a0_4 a0_5 a0_6 l0_7 h0_4 h0_7) szf_ret)
  exact H
def w119 (x : S119) : Nat := (x.f1.size + ((x.f4.length + (x.f4.map ByteArray.size).sum) + 0))
def w121 (x : S121) : Nat := ((x.f3.f1.size + ((x.f3.f4.length + (x.f3.f4.map ByteArray.size).sum) + 0)) + 0)
theorem szToldS_sz (l : List (S121)) (h : (l.length * 88 ≤ 140737488351232 ∧ ∀ y ∈ l, wf121 y)) : Szf (fun k a => laws_szToldS.f k l a) (l.length + (l.map w121).sum) := by
  have H := szf_list (l := l) (L0 := laws_szToldS.l0) (step := fun k x s => laws_szTold.f k x.f0 x.f1 x.f2 x.f3.f0 x.f3.f1 x.f3.f2 x.f3.f3 x.f3.f4 s) (rd := rd_T121) (fun _ _ _ _ => rfl) getD_get (by have := h.1; omega) (fun a ha => szTold_sz a.f0 a.f1 a.f2 a.f3.f0 a.f3.f1 a.f3.f2 a.f3.f3 a.f3.f4 (h.2 a ha).2.2.2.2.1 (h.2 a ha).2.2.2.2.2.2.2)
  exact H
theorem toAsk_to (a0_0 : Int) (a0_1 : ByteArray) (a0_2 : ByteArray) (a0_3 : Int) (a0_4 : Int) (a0_5 : ByteArray) (h : (a0_1.size + (a0_2.size + (a0_5.size + 0))) ≤ 1048576) : Ev (fun k => laws_toAsk.f a0_0 a0_1 a0_2 a0_3 a0_4 a0_5) (a0_0, a0_1, a0_2, a0_3, a0_4, a0_5) := by
  unfold laws_toAsk.f
  exact (Ev.now _)
theorem toAct_to (a0_0 : Int) (a0_1 : Int) (a0_2 : Int) (a0_3 : ByteArray) (a0_4 : ByteArray) (a0_5 : Int) (a0_6 : Int) (a0_7 : ByteArray) (a0_8 : Int) (h : ((a0_3.size + (a0_4.size + (a0_7.size + 0))) + 0) ≤ 1048576) : Ev (fun k => laws_toAct.f a0_0 a0_1 a0_2 a0_3 a0_4 a0_5 a0_6 a0_7 a0_8) (a0_0, a0_1, a0_2, a0_3, a0_4, a0_5, a0_6, a0_7, a0_8) := by
  unfold laws_toAct.f
  exact (Ev.bind (toAsk_to a0_2 a0_3 a0_4 a0_5 a0_6 a0_7 (by omega)) (Ev.now _))
def w42 (x : S42) : Nat := (x.f1.size + (x.f2.size + (x.f5.size + 0)))
def c115 (x : S115) : S42 := ⟨x.f0, x.f1, x.f2, x.f3, x.f4, x.f5⟩
theorem cw115 (x : S115) : w42 (c115 x) = w115 x := by
  first | rfl | (simp [w42, c115, w115, Function.comp_def])
theorem cws115 (l : List S115) : (l.map c115).length + ((l.map c115).map w42).sum = l.length + (l.map w115).sum := by
  simp only [List.length_map, List.map_map, Function.comp_def, cw115]
def w123 (x : S123) : Nat := ((x.f2.f1.size + (x.f2.f2.size + (x.f2.f5.size + 0))) + 0)
def c117 (x : S117) : S123 := ⟨x.f0, x.f1, (⟨x.f2.f0, x.f2.f1, x.f2.f2, x.f2.f3, x.f2.f4, x.f2.f5⟩ : S42), x.f3⟩
theorem cw117 (x : S117) : w123 (c117 x) = w117 x := by
  first | rfl | (simp [w123, c117, w117, Function.comp_def])
theorem cws117 (l : List S117) : (l.map c117).length + ((l.map c117).map w123).sum = l.length + (l.map w117).sum := by
  simp only [List.length_map, List.map_map, Function.comp_def, cw117]
theorem toActS_to (l : List (S117)) (h : (l.length + (l.map w117).sum) ≤ 1048576) : Ev (fun k => laws_toActS.f k l) (l.map c117) := by
  have H := to_list (l := l) (L0 := laws_toActS.l0) (z := z123) (conv := c117) (mk := fun b => (⟨b.1, b.2.1, (⟨b.2.2.1, b.2.2.2.1, b.2.2.2.2.1, b.2.2.2.2.2.1, b.2.2.2.2.2.2.1, b.2.2.2.2.2.2.2.1⟩ : S42), b.2.2.2.2.2.2.2.2⟩ : S123)) (t := fun x => (x.f0, x.f1, x.f2.f0, x.f2.f1, x.f2.f2, x.f2.f3, x.f2.f4, x.f2.f5, x.f3)) (step := fun k x => laws_toAct.f x.f0 x.f1 x.f2.f0 x.f2.f1 x.f2.f2 x.f2.f3 x.f2.f4 x.f2.f5 x.f3) (rd := rd_T117) (B := 2932031007402) (fun _ _ _ _ => rfl) getD_get (by omega) (by decide) (fun a ha => ⟨toAct_to a.f0 a.f1 a.f2.f0 a.f2.f1 a.f2.f2 a.f2.f3 a.f2.f4 a.f2.f5 a.f3 (mem_w (w := w117) h ha), rfl⟩)
  exact H
theorem toStringS_to (l : List (ByteArray)) (h : (l.length + (l.map ByteArray.size).sum) ≤ 1048576) : Ev (fun k => laws_toStringS.f k l) l := by
  have H := to_list1 (l := l) (L0 := laws_toStringS.l0) (z := (⟨#[]⟩ : ByteArray)) (rd := rdOf ByteArray.empty) (B := 17592186044416) (fun _ _ _ _ => rfl) rdOf_get (by omega) (by decide)
  exact H
theorem toResult_to (a0_0 : Int) (a0_1 : ByteArray) (a0_2 : Int) (a0_3 : Bool) (l0_4 : List (ByteArray)) (h : (a0_1.size + ((l0_4.length + (l0_4.map ByteArray.size).sum) + 0)) ≤ 1048576) : Ev (fun k => laws_toResult.f k a0_0 a0_1 a0_2 a0_3 l0_4) (a0_0, a0_1, a0_2, a0_3, l0_4) := by
  unfold laws_toResult.f
  exact (Ev.bind (toStringS_to l0_4 (by omega)) (Ev.now _))
theorem toTold_to (a0_0 : Int) (a0_1 : Int) (a0_2 : Bool) (a0_3 : Int) (a0_4 : ByteArray) (a0_5 : Int) (a0_6 : Bool) (l0_7 : List (ByteArray)) (h : ((a0_4.size + ((l0_7.length + (l0_7.map ByteArray.size).sum) + 0)) + 0) ≤ 1048576) : Ev (fun k => laws_toTold.f k a0_0 a0_1 a0_2 a0_3 a0_4 a0_5 a0_6 l0_7) (a0_0, a0_1, a0_2, a0_3, a0_4, a0_5, a0_6, l0_7) := by
  unfold laws_toTold.f
  exact (Ev.bind (toResult_to a0_3 a0_4 a0_5 a0_6 l0_7 (by omega)) (Ev.now _))
def w95 (x : S95) : Nat := (x.f1.size + ((x.f4.length + (x.f4.map ByteArray.size).sum) + 0))
def c119 (x : S119) : S95 := ⟨x.f0, x.f1, x.f2, x.f3, x.f4⟩
theorem cw119 (x : S119) : w95 (c119 x) = w119 x := by
  first | rfl | (simp [w95, c119, w119, Function.comp_def])
theorem cws119 (l : List S119) : (l.map c119).length + ((l.map c119).map w95).sum = l.length + (l.map w119).sum := by
  simp only [List.length_map, List.map_map, Function.comp_def, cw119]
def w125 (x : S125) : Nat := ((x.f3.f1.size + ((x.f3.f4.length + (x.f3.f4.map ByteArray.size).sum) + 0)) + 0)
def c121 (x : S121) : S125 := ⟨x.f0, x.f1, x.f2, (⟨x.f3.f0, x.f3.f1, x.f3.f2, x.f3.f3, x.f3.f4⟩ : S95)⟩
theorem cw121 (x : S121) : w125 (c121 x) = w121 x := by
  first | rfl | (simp [w125, c121, w121, Function.comp_def])
theorem cws121 (l : List S121) : (l.map c121).length + ((l.map c121).map w125).sum = l.length + (l.map w121).sum := by
  simp only [List.length_map, List.map_map, Function.comp_def, cw121]
theorem toToldS_to (l : List (S121)) (h : (l.length + (l.map w121).sum) ≤ 1048576) : Ev (fun k => laws_toToldS.f k l) (l.map c121) := by
  have H := to_list (l := l) (L0 := laws_toToldS.l0) (z := z125) (conv := c121) (mk := fun b => (⟨b.1, b.2.1, b.2.2.1, (⟨b.2.2.2.1, b.2.2.2.2.1, b.2.2.2.2.2.1, b.2.2.2.2.2.2.1, b.2.2.2.2.2.2.2⟩ : S95)⟩ : S125)) (t := fun x => (x.f0, x.f1, x.f2, x.f3.f0, x.f3.f1, x.f3.f2, x.f3.f3, x.f3.f4)) (step := fun k x => laws_toTold.f k x.f0 x.f1 x.f2 x.f3.f0 x.f3.f1 x.f3.f2 x.f3.f3 x.f3.f4) (rd := rd_T121) (B := 3198579280802) (fun _ _ _ _ => rfl) getD_get (by omega) (by decide) (fun a ha => ⟨toTold_to a.f0 a.f1 a.f2 a.f3.f0 a.f3.f1 a.f3.f2 a.f3.f3 a.f3.f4 (mem_w (w := w121) h ha), rfl⟩)
  exact H
theorem eqAsk_eq (a0_0 : Int) (a0_1 : ByteArray) (a0_2 : ByteArray) (a0_3 : Int) (a0_4 : Int) (a0_5 : ByteArray) (h : (a0_1.size + (a0_2.size + (a0_5.size + 0))) ≤ 1048576) : Ev (fun k => laws_eqAsk.f a0_0 a0_1 a0_2 a0_3 a0_4 a0_5 a0_0 a0_1 a0_2 a0_3 a0_4 a0_5) true := by
  unfold laws_eqAsk.f
  exact (eqf_if (eqf_if (eqf_if (eqf_if (eqf_if (eqf_if eqf_end))))))
theorem eqAskS_eq (l : List (S42)) (h : (l.length + (l.map w42).sum) ≤ 1048576) : Ev (fun k => laws_eqAskS.f k l l) true := by
  have H := eq_list (l := l) (L0 := laws_eqAskS.l0) (step := fun k x y => laws_eqAsk.f x.f0 x.f1 x.f2 x.f3 x.f4 x.f5 y.f0 y.f1 y.f2 y.f3 y.f4 y.f5) (rd := rd_T42) (fun _ _ _ _ => rfl) getD_get (by omega) (fun a ha => eqAsk_eq a.f0 a.f1 a.f2 a.f3 a.f4 a.f5 (mem_w (w := w42) h ha))
  exact H
theorem eqAct_eq (a0_0 : Int) (a0_1 : Int) (a0_2 : Int) (a0_3 : ByteArray) (a0_4 : ByteArray) (a0_5 : Int) (a0_6 : Int) (a0_7 : ByteArray) (a0_8 : Int) (h : ((a0_3.size + (a0_4.size + (a0_7.size + 0))) + 0) ≤ 1048576) : Ev (fun k => laws_eqAct.f a0_0 a0_1 a0_2 a0_3 a0_4 a0_5 a0_6 a0_7 a0_8 a0_0 a0_1 a0_2 a0_3 a0_4 a0_5 a0_6 a0_7 a0_8) true := by
  unfold laws_eqAct.f
  exact (eqf_if (eqf_if (eqf_call (eqAsk_eq a0_2 a0_3 a0_4 a0_5 a0_6 a0_7 (by omega)) (eqf_if eqf_end))))
theorem eqActS_eq (l : List (S123)) (h : (l.length + (l.map w123).sum) ≤ 1048576) : Ev (fun k => laws_eqActS.f k l l) true := by
  have H := eq_list (l := l) (L0 := laws_eqActS.l0) (step := fun k x y => laws_eqAct.f x.f0 x.f1 x.f2.f0 x.f2.f1 x.f2.f2 x.f2.f3 x.f2.f4 x.f2.f5 x.f3 y.f0 y.f1 y.f2.f0 y.f2.f1 y.f2.f2 y.f2.f3 y.f2.f4 y.f2.f5 y.f3) (rd := rd_T123) (fun _ _ _ _ => rfl) getD_get (by omega) (fun a ha => eqAct_eq a.f0 a.f1 a.f2.f0 a.f2.f1 a.f2.f2 a.f2.f3 a.f2.f4 a.f2.f5 a.f3 (mem_w (w := w123) h ha))
  exact H
theorem eqStringS_eq (l : List (ByteArray)) (h : (l.length + (l.map ByteArray.size).sum) ≤ 1048576) : Ev (fun k => laws_eqStringS.f k l l) true := by
  have H := eq_list1 (l := l) (L0 := laws_eqStringS.l0) (c := fun b : ByteArray => b.toList) (rd := rdOf ByteArray.empty) (fun _ _ _ _ => rfl) rdOf_get (by omega)
  exact H
theorem eqResult_eq (a0_0 : Int) (a0_1 : ByteArray) (a0_2 : Int) (a0_3 : Bool) (l0_4 : List (ByteArray)) (h : (a0_1.size + ((l0_4.length + (l0_4.map ByteArray.size).sum) + 0)) ≤ 1048576) : Ev (fun k => laws_eqResult.f k a0_0 a0_1 a0_2 a0_3 l0_4 a0_0 a0_1 a0_2 a0_3 l0_4) true := by
  unfold laws_eqResult.f
  exact (eqf_if (eqf_if (eqf_if (eqf_bool (eqf_call (eqStringS_eq l0_4 (by omega)) eqf_end)))))
theorem eqTold_eq (a0_0 : Int) (a0_1 : Int) (a0_2 : Bool) (a0_3 : Int) (a0_4 : ByteArray) (a0_5 : Int) (a0_6 : Bool) (l0_7 : List (ByteArray)) (h : ((a0_4.size + ((l0_7.length + (l0_7.map ByteArray.size).sum) + 0)) + 0) ≤ 1048576) : Ev (fun k => laws_eqTold.f k a0_0 a0_1 a0_2 a0_3 a0_4 a0_5 a0_6 l0_7 a0_0 a0_1 a0_2 a0_3 a0_4 a0_5 a0_6 l0_7) true := by
  unfold laws_eqTold.f
  exact (eqf_if (eqf_if (eqf_bool (eqf_call (eqResult_eq a0_3 a0_4 a0_5 a0_6 l0_7 (by omega)) eqf_end))))
theorem eqToldS_eq (l : List (S125)) (h : (l.length + (l.map w125).sum) ≤ 1048576) : Ev (fun k => laws_eqToldS.f k l l) true := by
  have H := eq_list (l := l) (L0 := laws_eqToldS.l0) (step := fun k x y => laws_eqTold.f k x.f0 x.f1 x.f2 x.f3.f0 x.f3.f1 x.f3.f2 x.f3.f3 x.f3.f4 y.f0 y.f1 y.f2 y.f3.f0 y.f3.f1 y.f3.f2 y.f3.f3 y.f3.f4) (rd := rd_T125) (fun _ _ _ _ => rfl) getD_get (by omega) (fun a ha => eqTold_eq a.f0 a.f1 a.f2 a.f3.f0 a.f3.f1 a.f3.f2 a.f3.f3 a.f3.f4 (mem_w (w := w125) h ha))
  exact H
noncomputable def mt (c : Int) : ByteArray := mtOf laws_markText.f c
theorem mt_ev (c : Int) (hc : c ≤ 1125899906842624) : Ev (fun k => laws_markText.f k c) (mt c) := mtOf_ev (markText_ex (F := laws_markText.f) (L0 := laws_markText.l0) (fun _ _ => rfl) (fun _ _ _ => rfl) c hc)
noncomputable def mkActS (c : Int) (_ : S123) : S123 := (⟨(c), (c + 1), (⟨(c + 1 + 1), mt (c + 1 + 1 + 1), mt (c + 1 + 1 + 1 + 1), (c + 1 + 1 + 1 + 1 + 1), (c + 1 + 1 + 1 + 1 + 1 + 1), mt (c + 1 + 1 + 1 + 1 + 1 + 1 + 1)⟩ : S42), (c + 1 + 1 + 1 + 1 + 1 + 1 + 1 + 1)⟩ : S123)
theorem markActS_at (l : List (S123)) (h : l.length ≤ 1048576) (c0 : Int) (h0 : 1 ≤ c0) (h0' : c0 ≤ 1099511627776) : Ev (fun k => laws_markActS.f k l c0) (c0 + (((l.map fun _ => (9 : Nat)).sum : Nat) : Int), markAll mkActS (fun _ => 9) c0 l) := by
  have hsum := sum_const 9 l
  refine mark_ev mkActS (fun _ => 9) (fun _ => True) (fun k s i => laws_markActS.l0 k s.1 s.2 i) ?_ ?_ h (fun _ _ => trivial) c0 h0 (by omega)
  · intro k s
    simp only [laws_markActS.l0, if_neg (Int.lt_irrefl _)]
  · intro y c i a hget hlt hy _ h1 h2 r ih
    have e : wrap64 ((i : Int) + 1) = (i : Int) + 1 := w64 (by omega) (by omega)
    have hr : rd_T123 y (i : Int) = a := getD_get i a hget
    have hs : ∀ v, rd_T123 (y.set i v) (i : Int) = v := fun v => getD_get i v (by simp [hlt])
    have v1 : wrap64 (c + 1) = c + 1 := w64 (by omega) (by omega)
    have v2 : wrap64 (c + 1 + 1) = c + 1 + 1 := w64 (by omega) (by omega)
    have v3 : wrap64 (c + 1 + 1 + 1) = c + 1 + 1 + 1 := w64 (by omega) (by omega)
    have v4 : wrap64 (c + 1 + 1 + 1 + 1) = c + 1 + 1 + 1 + 1 := w64 (by omega) (by omega)
    have v5 : wrap64 (c + 1 + 1 + 1 + 1 + 1) = c + 1 + 1 + 1 + 1 + 1 := w64 (by omega) (by omega)
    have v6 : wrap64 (c + 1 + 1 + 1 + 1 + 1 + 1) = c + 1 + 1 + 1 + 1 + 1 + 1 := w64 (by omega) (by omega)
    have v7 : wrap64 (c + 1 + 1 + 1 + 1 + 1 + 1 + 1) = c + 1 + 1 + 1 + 1 + 1 + 1 + 1 := w64 (by omega) (by omega)
    have v8 : wrap64 (c + 1 + 1 + 1 + 1 + 1 + 1 + 1 + 1) = c + 1 + 1 + 1 + 1 + 1 + 1 + 1 + 1 := w64 (by omega) (by omega)
    have v9 : wrap64 (c + 1 + 1 + 1 + 1 + 1 + 1 + 1 + 1 + 1) = c + 1 + 1 + 1 + 1 + 1 + 1 + 1 + 1 + 1 := w64 (by omega) (by omega)
    have hc : c + ((9 : Nat) : Int) = c + 1 + 1 + 1 + 1 + 1 + 1 + 1 + 1 + 1 := by omega
    (try dsimp only at ih)
    rw [hc] at ih
    refine ev_succ ?_
    simp only [laws_markActS.l0, if_pos (show (i : Int) < (y.length : Int) by omega), if_pos (show (0 : Int) ≤ (i : Int) by omega), Option.bind_some, Int.toNat_natCast, List.set_set, e, hr, hs, v1, v2, v3, v4, v5, v6, v7, v8, v9]
    refine Ev.bind (mt_ev (c + 1 + 1 + 1) (by omega)) ?_
    (try simp only [Option.bind_some, Int.toNat_natCast, List.set_set, e, hr, hs, v1, v2, v3, v4, v5, v6, v7, v8, v9])
    refine Ev.bind (mt_ev (c + 1 + 1 + 1 + 1) (by omega)) ?_
    (try simp only [Option.bind_some, Int.toNat_natCast, List.set_set, e, hr, hs, v1, v2, v3, v4, v5, v6, v7, v8, v9])
    refine Ev.bind (mt_ev (c + 1 + 1 + 1 + 1 + 1 + 1 + 1) (by omega)) ?_
    (try simp only [Option.bind_some, Int.toNat_natCast, List.set_set, e, hr, hs, v1, v2, v3, v4, v5, v6, v7, v8, v9])
    exact ih
theorem markActS_mk (l : List (S123)) (h : l.length ≤ 1048576) : Ev (fun k => laws_markActS.f k l 1) (1 + (((l.map fun _ => (9 : Nat)).sum : Nat) : Int), markAll mkActS (fun _ => 9) 1 l) := markActS_at l h 1 (by decide) (by decide)
-- laws_markToldS: rows inside the elements
noncomputable def mkAskS (c : Int) (_ : S42) : S42 := (⟨(c), mt (c + 1), mt (c + 1 + 1), (c + 1 + 1 + 1), (c + 1 + 1 + 1 + 1), mt (c + 1 + 1 + 1 + 1 + 1)⟩ : S42)
theorem markAskS_at (l : List (S42)) (h : l.length ≤ 1048576) (c0 : Int) (h0 : 1 ≤ c0) (h0' : c0 ≤ 1099511627776) : Ev (fun k => laws_markAskS.f k l c0) (c0 + (((l.map fun _ => (6 : Nat)).sum : Nat) : Int), markAll mkAskS (fun _ => 6) c0 l) := by
  have hsum := sum_const 6 l
  refine mark_ev mkAskS (fun _ => 6) (fun _ => True) (fun k s i => laws_markAskS.l0 k s.1 s.2 i) ?_ ?_ h (fun _ _ => trivial) c0 h0 (by omega)
  · intro k s
    simp only [laws_markAskS.l0, if_neg (Int.lt_irrefl _)]
  · intro y c i a hget hlt hy _ h1 h2 r ih
    have e : wrap64 ((i : Int) + 1) = (i : Int) + 1 := w64 (by omega) (by omega)
    have hr : rd_T42 y (i : Int) = a := getD_get i a hget
    have hs : ∀ v, rd_T42 (y.set i v) (i : Int) = v := fun v => getD_get i v (by simp [hlt])
    have v1 : wrap64 (c + 1) = c + 1 := w64 (by omega) (by omega)
    have v2 : wrap64 (c + 1 + 1) = c + 1 + 1 := w64 (by omega) (by omega)
    have v3 : wrap64 (c + 1 + 1 + 1) = c + 1 + 1 + 1 := w64 (by omega) (by omega)
    have v4 : wrap64 (c + 1 + 1 + 1 + 1) = c + 1 + 1 + 1 + 1 := w64 (by omega) (by omega)
    have v5 : wrap64 (c + 1 + 1 + 1 + 1 + 1) = c + 1 + 1 + 1 + 1 + 1 := w64 (by omega) (by omega)
    have v6 : wrap64 (c + 1 + 1 + 1 + 1 + 1 + 1) = c + 1 + 1 + 1 + 1 + 1 + 1 := w64 (by omega) (by omega)
    have hc : c + ((6 : Nat) : Int) = c + 1 + 1 + 1 + 1 + 1 + 1 := by omega
    (try dsimp only at ih)
    rw [hc] at ih
    refine ev_succ ?_
    simp only [laws_markAskS.l0, if_pos (show (i : Int) < (y.length : Int) by omega), if_pos (show (0 : Int) ≤ (i : Int) by omega), Option.bind_some, Int.toNat_natCast, List.set_set, e, hr, hs, v1, v2, v3, v4, v5, v6]
    refine Ev.bind (mt_ev (c + 1) (by omega)) ?_
    (try simp only [Option.bind_some, Int.toNat_natCast, List.set_set, e, hr, hs, v1, v2, v3, v4, v5, v6])
    refine Ev.bind (mt_ev (c + 1 + 1) (by omega)) ?_
    (try simp only [Option.bind_some, Int.toNat_natCast, List.set_set, e, hr, hs, v1, v2, v3, v4, v5, v6])
    refine Ev.bind (mt_ev (c + 1 + 1 + 1 + 1 + 1) (by omega)) ?_
    (try simp only [Option.bind_some, Int.toNat_natCast, List.set_set, e, hr, hs, v1, v2, v3, v4, v5, v6])
    exact ih
theorem markAskS_mk (l : List (S42)) (h : l.length ≤ 1048576) : Ev (fun k => laws_markAskS.f k l 1) (1 + (((l.map fun _ => (6 : Nat)).sum : Nat) : Int), markAll mkAskS (fun _ => 6) 1 l) := markAskS_at l h 1 (by decide) (by decide)
theorem heldAskS_hd (l : List (S42)) (h : l.length ≤ 1048576) : Ev (fun k => laws_heldAskS.f k (markAll mkAskS (fun _ => 6) 1 l) 1) (1 + (((l.map fun _ => (6 : Nat)).sum : Nat) : Int)) := by
  have hsum := sum_const 6 l
  have hxl := markAll_length mkAskS (fun _ => 6) l 1
  refine held_ev (l := l) mkAskS (fun _ => 6) (fun _ => True) 1 _ rfl (fun k c i => laws_heldAskS.l0 k (markAll mkAskS (fun _ => 6) 1 l) c i) ?_ ?_ (fun _ _ => trivial) (by omega) (by omega)
  · intro k c
    simp only [laws_heldAskS.l0, if_neg (Int.lt_irrefl _)]
  · intro c i a hget hlt _ h1 h2 r ih
    have e : wrap64 ((i : Int) + 1) = (i : Int) + 1 := w64 (by omega) (by omega)
    have hr : rd_T42 (markAll mkAskS (fun _ => 6) 1 l) (i : Int) = mkAskS c a := getD_get i _ hget
    have v1 : wrap64 (c + 1) = c + 1 := w64 (by omega) (by omega)
    have v2 : wrap64 (c + 1 + 1) = c + 1 + 1 := w64 (by omega) (by omega)
    have v3 : wrap64 (c + 1 + 1 + 1) = c + 1 + 1 + 1 := w64 (by omega) (by omega)
    have v4 : wrap64 (c + 1 + 1 + 1 + 1) = c + 1 + 1 + 1 + 1 := w64 (by omega) (by omega)
    have v5 : wrap64 (c + 1 + 1 + 1 + 1 + 1) = c + 1 + 1 + 1 + 1 + 1 := w64 (by omega) (by omega)
    have v6 : wrap64 (c + 1 + 1 + 1 + 1 + 1 + 1) = c + 1 + 1 + 1 + 1 + 1 + 1 := w64 (by omega) (by omega)
    have hc : c + ((6 : Nat) : Int) = c + 1 + 1 + 1 + 1 + 1 + 1 := by omega
    (try dsimp only at ih)
    rw [hc] at ih
    refine ev_succ ?_
    simp only [laws_heldAskS.l0, if_pos (show (i : Int) < ((markAll mkAskS (fun _ => 6) 1 l).length : Int) by omega), if_pos (show (0 : Int) ≤ (i : Int) by omega), e, hr, mkAskS, eq_self, ↓reduceIte, v1, v2, v3, v4, v5, v6]
    refine Ev.bind (mt_ev (c + 1) (by omega)) ?_
    (try simp only [eq_self, ↓reduceIte, bne_self_eq_false, Bool.false_eq_true, e, hr, mkAskS, v1, v2, v3, v4, v5, v6])
    refine Ev.bind (mt_ev (c + 1 + 1) (by omega)) ?_
    (try simp only [eq_self, ↓reduceIte, bne_self_eq_false, Bool.false_eq_true, e, hr, mkAskS, v1, v2, v3, v4, v5, v6])
    refine Ev.bind (mt_ev (c + 1 + 1 + 1 + 1 + 1) (by omega)) ?_
    (try simp only [eq_self, ↓reduceIte, bne_self_eq_false, Bool.false_eq_true, e, hr, mkAskS, v1, v2, v3, v4, v5, v6])
    exact ih
end Go.Proofs.Ytlpghmopabihoaa.QFnExactAsksOf
