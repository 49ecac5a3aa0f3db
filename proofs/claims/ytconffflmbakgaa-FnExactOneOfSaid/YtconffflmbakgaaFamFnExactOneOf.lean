/-
  Sizes, copies and comparisons of FnExactOneOf: what the functions sz.., to.., eq.. of the law answer.
-/
import Derived.Test.YtconffflmbakgaaOpenFnExactOneOf
import Derived.Test.YtconffflmbakgaaVKit
import Derived.Test.YtconffflmbakgaaQFnExactOneOfx10
import Derived.Test.YtconffflmbakgaaQFnExactOneOfx11
import Derived.Test.YtconffflmbakgaaQFnExactOneOfx12
import Derived.Test.YtconffflmbakgaaQFnExactOneOfx13
import Derived.Test.YtconffflmbakgaaQFnExactOneOfx14
import Derived.Test.YtconffflmbakgaaQFnExactOneOfx2
import Derived.Test.YtconffflmbakgaaQFnExactOneOfx3
import Derived.Test.YtconffflmbakgaaQFnExactOneOfx6
import Derived.Test.YtconffflmbakgaaQFnExactOneOfx7
import Derived.Test.YtconffflmbakgaaQFnExactOneOfx9
namespace Go.Proofs.Ytconffflmbakgaa.QFnExactOneOf
open Go.RowKit Go.Proofs.YtconffflmbakgaaW.PrintWords Go.Proofs.Ytconffflmbakgaa.Opens Go.Proofs.Ytconffflmbakgaa.Kit
set_option linter.unusedVariables false
set_option linter.unusedSimpArgs false
theorem szCell_sz (a0_0 : Int) (a0_1 : ByteArray) (a0_2 : Bool) (h0_1 : a0_1.size ≤ 140737488351232) : Szf (fun k a => laws_szCell.f a0_0 a0_1 a0_2 a) (a0_1.size + 0) := by
  have H := (szf_str h0_1 szf_ret)
  exact H
def w149 (x : S149) : Nat := (x.f1.size + 0)
theorem szCellS_sz (l : List (S149)) (h : (l.length * 32 ≤ 140737488351232 ∧ ∀ y ∈ l, wf149 y)) : Szf (fun k a => laws_szCellS.f k l a) (l.length + (l.map w149).sum) := by
  have H := szf_list (l := l) (L0 := laws_szCellS.l0) (step := fun k x s => laws_szCell.f x.f0 x.f1 x.f2 s) (rd := rd_T149) (fun _ _ _ _ => rfl) getD_get (by have := h.1; omega) (fun a ha => szCell_sz a.f0 a.f1 a.f2 (h.2 a ha).2.1)
  exact H
theorem szMemory_sz (a0_0 : ByteArray) (l0_1 : List (S149)) (h0_0 : a0_0.size ≤ 140737488351232) (h0_1 : (l0_1.length * 32 ≤ 140737488351232 ∧ ∀ y ∈ l0_1, wf149 y)) : Szf (fun k a => laws_szMemory.f k a0_0 l0_1 a) (a0_0.size + ((l0_1.length + (l0_1.map w149).sum) + 0)) := by
  have H := (szf_str h0_0 (szf_seq (szCellS_sz l0_1 h0_1) szf_ret))
  exact H
theorem szSealing_sz (a0_0 : ByteArray) (a0_1 : ByteArray) (a0_2 : ByteArray) (h0_0 : a0_0.size ≤ 140737488351232) (h0_1 : a0_1.size ≤ 140737488351232) (h0_2 : a0_2.size ≤ 140737488351232) : Szf (fun k a => laws_szSealing.f a0_0 a0_1 a0_2 a) (a0_0.size + (a0_1.size + (a0_2.size + 0))) := by
  have H := (szf_str h0_0 (szf_str h0_1 (szf_str h0_2 szf_ret)))
  exact H
def w164 (x : S164) : Nat := (x.f0.size + (x.f1.size + (x.f2.size + 0)))
theorem szSealingS_sz (l : List (S164)) (h : (l.length * 48 ≤ 140737488351232 ∧ ∀ y ∈ l, wf164 y)) : Szf (fun k a => laws_szSealingS.f k l a) (l.length + (l.map w164).sum) := by
  have H := szf_list (l := l) (L0 := laws_szSealingS.l0) (step := fun k x s => laws_szSealing.f x.f0 x.f1 x.f2 s) (rd := rd_T164) (fun _ _ _ _ => rfl) getD_get (by have := h.1; omega) (fun a ha => szSealing_sz a.f0 a.f1 a.f2 (h.2 a ha).1 (h.2 a ha).2.1 (h.2 a ha).2.2)
  exact H
theorem szStringS_sz (l : List (ByteArray)) (h : (l.length * 16 ≤ 140737488351232 ∧ ∀ y ∈ l, y.size ≤ 140737488351232)) : Szf (fun k a => laws_szStringS.f k l a) (l.length + (l.map ByteArray.size).sum) := by
  have H := szf_list1 (l := l) (L0 := laws_szStringS.l0) (rd := rdOf ByteArray.empty) (fun _ _ _ _ => rfl) rdOf_get (by have := h.1; omega) h.2
  exact H
theorem szResult_sz (a0_0 : Int) (a0_1 : ByteArray) (a0_2 : Int) (a0_3 : Bool) (l0_4 : List (ByteArray)) (h0_1 : a0_1.size ≤ 140737488351232) (h0_4 : (l0_4.length * 16 ≤ 140737488351232 ∧ ∀ y ∈ l0_4, y.size ≤ 140737488351232)) : Szf (fun k a => laws_szResult.f k a0_0 a0_1 a0_2 a0_3 l0_4 a) (a0_1.size + ((l0_4.length + (l0_4.map ByteArray.size).sum) + 0)) := by
  have H := (szf_str h0_1 (szf_seq (szStringS_sz l0_4 h0_4) szf_ret))
  exact H
theorem szAsk_sz (a0_0 : Int) (a0_1 : ByteArray) (a0_2 : ByteArray) (a0_3 : Int) (a0_4 : Int) (a0_5 : ByteArray) (h0_1 : a0_1.size ≤ 140737488351232) (h0_2 : a0_2.size ≤ 140737488351232) (h0_5 : a0_5.size ≤ 140737488351232) : Szf (fun k a => laws_szAsk.f a0_0 a0_1 a0_2 a0_3 a0_4 a0_5 a) (a0_1.size + (a0_2.size + (a0_5.size + 0))) := by
  have H := (szf_str h0_1 (szf_str h0_2 (szf_str h0_5 szf_ret)))
  exact H
theorem szStep_sz (a0_0 : Int) (a0_1 : Int) (a0_2 : ByteArray) (h0_2 : a0_2.size ≤ 140737488351232) : Szf (fun k a => laws_szStep.f a0_0 a0_1 a0_2 a) (a0_2.size + 0) := by
  have H := (szf_str h0_2 szf_ret)
  exact H
def w201 (x : S201) : Nat := (x.f2.size + 0)
theorem szStepS_sz (l : List (S201)) (h : (l.length * 32 ≤ 140737488351232 ∧ ∀ y ∈ l, wf201 y)) : Szf (fun k a => laws_szStepS.f k l a) (l.length + (l.map w201).sum) := by
  have H := szf_list (l := l) (L0 := laws_szStepS.l0) (step := fun k x s => laws_szStep.f x.f0 x.f1 x.f2 s) (rd := rd_T201) (fun _ _ _ _ => rfl) getD_get (by have := h.1; omega) (fun a ha => szStep_sz a.f0 a.f1 a.f2 (h.2 a ha).2.2)
  exact H
theorem szJob_sz (a0_0 : Int) (a0_1 : ByteArray) (a0_2 : ByteArray) (a0_3 : Int) (a0_4 : Int) (a0_5 : ByteArray) (a0_6 : Int) (a0_7 : ByteArray) (a0_8 : Int) (a0_9 : Bool) (l0_10 : List (ByteArray)) (l0_11 : List (S201)) (l0_12 : List (S164)) (a0_13 : Int) (a0_14 : Bool) (a0_15 : Bool) (h0_1 : a0_1.size ≤ 140737488351232) (h0_2 : a0_2.size ≤ 140737488351232) (h0_5 : a0_5.size ≤ 140737488351232) (h0_7 : a0_7.size ≤ 140737488351232) (h0_10 : (l0_10.length * 16 ≤ 140737488351232 ∧ ∀ y ∈ l0_10, y.size ≤ 140737488351232)) (h0_11 : (l0_11.length * 32 ≤ 140737488351232 ∧ ∀ y ∈ l0_11, wf201 y)) (h0_12 : (l0_12.length * 48 ≤ 140737488351232 ∧ ∀ y ∈ l0_12, wf164 y)) : Szf (fun k a => laws_szJob.f k a0_0 a0_1 a0_2 a0_3 a0_4 a0_5 a0_6 a0_7 a0_8 a0_9 l0_10 l0_11 l0_12 a0_13 a0_14 a0_15 a) ((a0_1.size + (a0_2.size + (a0_5.size + 0))) + ((a0_7.size + ((l0_10.length + (l0_10.map ByteArray.size).sum) + 0)) + ((l0_11.length + (l0_11.map w201).sum) + ((l0_12.length + (l0_12.map w164).sum) + 0)))) := by
  have H := (szf_seq (szAsk_sz a0_0 a0_1 a0_2 a0_3 a0_4 a0_5 h0_1 h0_2 h0_5) (szf_seq (szResult_sz a0_6 a0_7 a0_8 a0_9 l0_10 h0_7 h0_10) (szf_seq (szStepS_sz l0_11 h0_11) (szf_seq (szSealingS_sz l0_12 h0_12) szf_ret))))
  exact H
def w126 (x : S126) : Nat := (x.f1.size + (x.f2.size + (x.f5.size + 0)))
def w121 (x : S121) : Nat := (x.f1.size + ((x.f4.length + (x.f4.map ByteArray.size).sum) + 0))
def w161 (x : S161) : Nat := ((x.f0.f1.size + (x.f0.f2.size + (x.f0.f5.size + 0))) + ((x.f1.f1.size + ((x.f1.f4.length + (x.f1.f4.map ByteArray.size).sum) + 0)) + ((x.f2.length + (x.f2.map w201).sum) + ((x.f3.length + (x.f3.map w164).sum) + 0))))
theorem szJobS_sz (l : List (S161)) (h : (l.length * 200 ≤ 140737488351232 ∧ ∀ y ∈ l, wf161 y)) : Szf (fun k a => laws_szJobS.f k l a) (l.length + (l.map w161).sum) := by
  have H := szf_list (l := l) (L0 := laws_szJobS.l0) (step := fun k x s => laws_szJob.f k x.f0.f0 x.f0.f1 x.f0.f2 x.f0.f3 x.f0.f4 x.f0.f5 x.f1.f0 x.f1.f1 x.f1.f2 x.f1.f3 x.f1.f4 x.f2 x.f3 x.f4 x.f5 x.f6 s) (rd := rd_T161) (fun _ _ _ _ => rfl) getD_get (by have := h.1; omega) (fun a ha => szJob_sz a.f0.f0 a.f0.f1 a.f0.f2 a.f0.f3 a.f0.f4 a.f0.f5 a.f1.f0 a.f1.f1 a.f1.f2 a.f1.f3 a.f1.f4 a.f2 a.f3 a.f4 a.f5 a.f6 (h.2 a ha).1.2.1 (h.2 a ha).1.2.2.1 (h.2 a ha).1.2.2.2.2.2 (h.2 a ha).2.1.2.1 (h.2 a ha).2.1.2.2.2.2 (h.2 a ha).2.2.1 (h.2 a ha).2.2.2.1)
  exact H
theorem szSystem_sz (a0_0 : Int) (a0_1 : Int) (a0_2 : Int) (a0_3 : Int) (a0_4 : ByteArray) (l0_5 : List (S149)) (l0_6 : List (S161)) (l0_7 : List (S164)) (h0_4 : a0_4.size ≤ 140737488351232) (h0_5 : (l0_5.length * 32 ≤ 140737488351232 ∧ ∀ y ∈ l0_5, wf149 y)) (h0_6 : (l0_6.length * 200 ≤ 140737488351232 ∧ ∀ y ∈ l0_6, wf161 y)) (h0_7 : (l0_7.length * 48 ≤ 140737488351232 ∧ ∀ y ∈ l0_7, wf164 y)) : Szf (fun k a => laws_szSystem.f k a0_0 a0_1 a0_2 a0_3 a0_4 l0_5 l0_6 l0_7 a) ((a0_4.size + ((l0_5.length + (l0_5.map w149).sum) + 0)) + ((l0_6.length + (l0_6.map w161).sum) + ((l0_7.length + (l0_7.map w164).sum) + 0))) := by
  have H := (szf_seq (szMemory_sz a0_4 l0_5 h0_4 h0_5) (szf_seq (szJobS_sz l0_6 h0_6) (szf_seq (szSealingS_sz l0_7 h0_7) szf_ret)))
  exact H
theorem szItem_sz (a0_0 : ByteArray) (a0_1 : Bool) (a0_2 : ByteArray) (h0_0 : a0_0.size ≤ 140737488351232) (h0_2 : a0_2.size ≤ 140737488351232) : Szf (fun k a => laws_szItem.f a0_0 a0_1 a0_2 a) (a0_0.size + (a0_2.size + 0)) := by
  have H := (szf_str h0_0 (szf_str h0_2 szf_ret))
  exact H
def w205 (x : S205) : Nat := (x.f0.size + (x.f2.size + 0))
theorem szItemS_sz (l : List (S205)) (h : (l.length * 40 ≤ 140737488351232 ∧ ∀ y ∈ l, wf205 y)) : Szf (fun k a => laws_szItemS.f k l a) (l.length + (l.map w205).sum) := by
  have H := szf_list (l := l) (L0 := laws_szItemS.l0) (step := fun k x s => laws_szItem.f x.f0 x.f1 x.f2 s) (rd := rd_T205) (fun _ _ _ _ => rfl) getD_get (by have := h.1; omega) (fun a ha => szItem_sz a.f0 a.f1 a.f2 (h.2 a ha).1 (h.2 a ha).2.2)
  exact H
theorem szView_sz (l0_0 : List (S205)) (h0_0 : (l0_0.length * 40 ≤ 140737488351232 ∧ ∀ y ∈ l0_0, wf205 y)) : Szf (fun k a => laws_szView.f k l0_0 a) ((l0_0.length + (l0_0.map w205).sum) + 0) := by
  have H := (szf_seq (szItemS_sz l0_0 h0_0) szf_ret)
  exact H
def w174 (x : S174) : Nat := ((x.f0.length + (x.f0.map w205).sum) + 0)
theorem szViewS_sz (l : List (S174)) (h : (l.length * 24 ≤ 140737488351232 ∧ ∀ y ∈ l, wf174 y)) : Szf (fun k a => laws_szViewS.f k l a) (l.length + (l.map w174).sum) := by
  have H := szf_list (l := l) (L0 := laws_szViewS.l0) (step := fun k x s => laws_szView.f k x.f0 s) (rd := rd_T174) (fun _ _ _ _ => rfl) getD_get (by have := h.1; omega) (fun a ha => szView_sz a.f0 (h.2 a ha))
  exact H
theorem szWorld_sz (a0_0 : Int) (a0_1 : Int) (a0_2 : Int) (a0_3 : Int) (a0_4 : ByteArray) (l0_5 : List (S149)) (l0_6 : List (S161)) (l0_7 : List (S164)) (l0_8 : List (S174)) (l0_9 : List (S174)) (a0_10 : Int) (h0_4 : a0_4.size ≤ 140737488351232) (h0_5 : (l0_5.length * 32 ≤ 140737488351232 ∧ ∀ y ∈ l0_5, wf149 y)) (h0_6 : (l0_6.length * 200 ≤ 140737488351232 ∧ ∀ y ∈ l0_6, wf161 y)) (h0_7 : (l0_7.length * 48 ≤ 140737488351232 ∧ ∀ y ∈ l0_7, wf164 y)) (h0_8 : (l0_8.length * 24 ≤ 140737488351232 ∧ ∀ y ∈ l0_8, wf174 y)) (h0_9 : (l0_9.length * 24 ≤ 140737488351232 ∧ ∀ y ∈ l0_9, wf174 y)) : Szf (fun k a => laws_szWorld.f k a0_0 a0_1 a0_2 a0_3 a0_4 l0_5 l0_6 l0_7 l0_8 l0_9 a0_10 a) (((a0_4.size + ((l0_5.length + (l0_5.map w149).sum) + 0)) + ((l0_6.length + (l0_6.map w161).sum) + ((l0_7.length + (l0_7.map w164).sum) + 0))) + ((l0_8.length + (l0_8.map w174).sum) + ((l0_9.length + (l0_9.map w174).sum) + 0))) := by
  have H := (szf_seq (szSystem_sz a0_0 a0_1 a0_2 a0_3 a0_4 l0_5 l0_6 l0_7 h0_4 h0_5 h0_6 h0_7) (szf_seq (szViewS_sz l0_8 h0_8) (szf_seq (szViewS_sz l0_9 h0_9) szf_ret)))
  exact H
theorem toGeo_to (a0_0 : Int) (a0_1 : Int) (a0_2 : Int) (a0_3 : Int) (h : 0 ≤ 1048576) : Ev (fun k => laws_toGeo.f a0_0 a0_1 a0_2 a0_3) (a0_0, a0_1, a0_2, a0_3) := by
  unfold laws_toGeo.f
  exact (Ev.now _)
theorem toCell_to (a0_0 : Int) (a0_1 : ByteArray) (a0_2 : Bool) (h : (a0_1.size + 0) ≤ 1048576) : Ev (fun k => laws_toCell.f a0_0 a0_1 a0_2) (a0_0, a0_1, a0_2) := by
  unfold laws_toCell.f
  exact (Ev.now _)
def w155 (x : S155) : Nat := (x.f1.size + 0)
def c149 (x : S149) : S155 := ⟨x.f0, x.f1, x.f2⟩
theorem cw149 (x : S149) : w155 (c149 x) = w149 x := by
  first | rfl | (simp [w155, c149, w149, Function.comp_def])
theorem cws149 (l : List S149) : (l.map c149).length + ((l.map c149).map w155).sum = l.length + (l.map w149).sum := by
  simp only [List.length_map, List.map_map, Function.comp_def, cw149]
theorem toCellS_to (l : List (S149)) (h : (l.length + (l.map w149).sum) ≤ 1048576) : Ev (fun k => laws_toCellS.f k l) (l.map c149) := by
  have H := to_list (l := l) (L0 := laws_toCellS.l0) (z := z155) (conv := c149) (mk := fun b => (⟨b.1, b.2.1, b.2.2⟩ : S155)) (t := fun x => (x.f0, x.f1, x.f2)) (step := fun k x => laws_toCell.f x.f0 x.f1 x.f2) (rd := rd_T149) (B := 8796093022208) (fun _ _ _ _ => rfl) getD_get (by omega) (by decide) (fun a ha => ⟨toCell_to a.f0 a.f1 a.f2 (mem_w (w := w149) h ha), rfl⟩)
  exact H
theorem toMemory_to (a0_0 : ByteArray) (l0_1 : List (S149)) (h : (a0_0.size + ((l0_1.length + (l0_1.map w149).sum) + 0)) ≤ 1048576) : Ev (fun k => laws_toMemory.f k a0_0 l0_1) (a0_0, l0_1.map c149) := by
  unfold laws_toMemory.f
  exact (Ev.bind (toCellS_to l0_1 (by omega)) (Ev.now _))
theorem toSealing_to (a0_0 : ByteArray) (a0_1 : ByteArray) (a0_2 : ByteArray) (h : (a0_0.size + (a0_1.size + (a0_2.size + 0))) ≤ 1048576) : Ev (fun k => laws_toSealing.f a0_0 a0_1 a0_2) (a0_0, a0_1, a0_2) := by
  unfold laws_toSealing.f
  exact (Ev.now _)
def w166 (x : S166) : Nat := (x.f0.size + (x.f1.size + (x.f2.size + 0)))
def c164 (x : S164) : S166 := ⟨x.f0, x.f1, x.f2⟩
theorem cw164 (x : S164) : w166 (c164 x) = w164 x := by
  first | rfl | (simp [w166, c164, w164, Function.comp_def])
theorem cws164 (l : List S164) : (l.map c164).length + ((l.map c164).map w166).sum = l.length + (l.map w164).sum := by
  simp only [List.length_map, List.map_map, Function.comp_def, cw164]
theorem toSealingS_to (l : List (S164)) (h : (l.length + (l.map w164).sum) ≤ 1048576) : Ev (fun k => laws_toSealingS.f k l) (l.map c164) := by
  have H := to_list (l := l) (L0 := laws_toSealingS.l0) (z := z166) (conv := c164) (mk := fun b => (⟨b.1, b.2.1, b.2.2⟩ : S166)) (t := fun x => (x.f0, x.f1, x.f2)) (step := fun k x => laws_toSealing.f x.f0 x.f1 x.f2) (rd := rd_T164) (B := 5864062014805) (fun _ _ _ _ => rfl) getD_get (by omega) (by decide) (fun a ha => ⟨toSealing_to a.f0 a.f1 a.f2 (mem_w (w := w164) h ha), rfl⟩)
  exact H
theorem toStringS_to (l : List (ByteArray)) (h : (l.length + (l.map ByteArray.size).sum) ≤ 1048576) : Ev (fun k => laws_toStringS.f k l) l := by
  have H := to_list1 (l := l) (L0 := laws_toStringS.l0) (z := (⟨#[]⟩ : ByteArray)) (rd := rdOf ByteArray.empty) (B := 17592186044416) (fun _ _ _ _ => rfl) rdOf_get (by omega) (by decide)
  exact H
theorem toResult_to (a0_0 : Int) (a0_1 : ByteArray) (a0_2 : Int) (a0_3 : Bool) (l0_4 : List (ByteArray)) (h : (a0_1.size + ((l0_4.length + (l0_4.map ByteArray.size).sum) + 0)) ≤ 1048576) : Ev (fun k => laws_toResult.f k a0_0 a0_1 a0_2 a0_3 l0_4) (a0_0, a0_1, a0_2, a0_3, l0_4) := by
  unfold laws_toResult.f
  exact (Ev.bind (toStringS_to l0_4 (by omega)) (Ev.now _))
theorem toAsk_to (a0_0 : Int) (a0_1 : ByteArray) (a0_2 : ByteArray) (a0_3 : Int) (a0_4 : Int) (a0_5 : ByteArray) (h : (a0_1.size + (a0_2.size + (a0_5.size + 0))) ≤ 1048576) : Ev (fun k => laws_toAsk.f a0_0 a0_1 a0_2 a0_3 a0_4 a0_5) (a0_0, a0_1, a0_2, a0_3, a0_4, a0_5) := by
  unfold laws_toAsk.f
  exact (Ev.now _)
theorem toStep_to (a0_0 : Int) (a0_1 : Int) (a0_2 : ByteArray) (h : (a0_2.size + 0) ≤ 1048576) : Ev (fun k => laws_toStep.f a0_0 a0_1 a0_2) (a0_0, a0_1, a0_2) := by
  unfold laws_toStep.f
  exact (Ev.now _)
def w195 (x : S195) : Nat := (x.f2.size + 0)
def c201 (x : S201) : S195 := ⟨x.f0, x.f1, x.f2⟩
theorem cw201 (x : S201) : w195 (c201 x) = w201 x := by
  first | rfl | (simp [w195, c201, w201, Function.comp_def])
theorem cws201 (l : List S201) : (l.map c201).length + ((l.map c201).map w195).sum = l.length + (l.map w201).sum := by
  simp only [List.length_map, List.map_map, Function.comp_def, cw201]
theorem toStepS_to (l : List (S201)) (h : (l.length + (l.map w201).sum) ≤ 1048576) : Ev (fun k => laws_toStepS.f k l) (l.map c201) := by
  have H := to_list (l := l) (L0 := laws_toStepS.l0) (z := z195) (conv := c201) (mk := fun b => (⟨b.1, b.2.1, b.2.2⟩ : S195)) (t := fun x => (x.f0, x.f1, x.f2)) (step := fun k x => laws_toStep.f x.f0 x.f1 x.f2) (rd := rd_T201) (B := 8796093022208) (fun _ _ _ _ => rfl) getD_get (by omega) (by decide) (fun a ha => ⟨toStep_to a.f0 a.f1 a.f2 (mem_w (w := w201) h ha), rfl⟩)
  exact H
theorem toJob_to (a0_0 : Int) (a0_1 : ByteArray) (a0_2 : ByteArray) (a0_3 : Int) (a0_4 : Int) (a0_5 : ByteArray) (a0_6 : Int) (a0_7 : ByteArray) (a0_8 : Int) (a0_9 : Bool) (l0_10 : List (ByteArray)) (l0_11 : List (S201)) (l0_12 : List (S164)) (a0_13 : Int) (a0_14 : Bool) (a0_15 : Bool) (h : ((a0_1.size + (a0_2.size + (a0_5.size + 0))) + ((a0_7.size + ((l0_10.length + (l0_10.map ByteArray.size).sum) + 0)) + ((l0_11.length + (l0_11.map w201).sum) + ((l0_12.length + (l0_12.map w164).sum) + 0)))) ≤ 1048576) : Ev (fun k => laws_toJob.f k a0_0 a0_1 a0_2 a0_3 a0_4 a0_5 a0_6 a0_7 a0_8 a0_9 l0_10 l0_11 l0_12 a0_13 a0_14 a0_15) (a0_0, a0_1, a0_2, a0_3, a0_4, a0_5, a0_6, a0_7, a0_8, a0_9, l0_10, l0_11.map c201, l0_12.map c164, a0_13, a0_14, a0_15) := by
  unfold laws_toJob.f
  exact (Ev.bind (toAsk_to a0_0 a0_1 a0_2 a0_3 a0_4 a0_5 (by omega)) (Ev.bind (toResult_to a0_6 a0_7 a0_8 a0_9 l0_10 (by omega)) (Ev.bind (toStepS_to l0_11 (by omega)) (Ev.bind (toSealingS_to l0_12 (by omega)) (Ev.now _)))))
def w99 (x : S99) : Nat := (x.f1.size + (x.f2.size + (x.f5.size + 0)))
def c126 (x : S126) : S99 := ⟨x.f0, x.f1, x.f2, x.f3, x.f4, x.f5⟩
theorem cw126 (x : S126) : w99 (c126 x) = w126 x := by
  first | rfl | (simp [w99, c126, w126, Function.comp_def])
theorem cws126 (l : List S126) : (l.map c126).length + ((l.map c126).map w99).sum = l.length + (l.map w126).sum := by
  simp only [List.length_map, List.map_map, Function.comp_def, cw126]
def w102 (x : S102) : Nat := (x.f1.size + ((x.f4.length + (x.f4.map ByteArray.size).sum) + 0))
def c121 (x : S121) : S102 := ⟨x.f0, x.f1, x.f2, x.f3, x.f4⟩
theorem cw121 (x : S121) : w102 (c121 x) = w121 x := by
  first | rfl | (simp [w102, c121, w121, Function.comp_def])
theorem cws121 (l : List S121) : (l.map c121).length + ((l.map c121).map w102).sum = l.length + (l.map w121).sum := by
  simp only [List.length_map, List.map_map, Function.comp_def, cw121]
def w105 (x : S105) : Nat := ((x.f0.f1.size + (x.f0.f2.size + (x.f0.f5.size + 0))) + ((x.f1.f1.size + ((x.f1.f4.length + (x.f1.f4.map ByteArray.size).sum) + 0)) + ((x.f2.length + (x.f2.map w195).sum) + ((x.f3.length + (x.f3.map w166).sum) + 0))))
def c161 (x : S161) : S105 := ⟨(⟨x.f0.f0, x.f0.f1, x.f0.f2, x.f0.f3, x.f0.f4, x.f0.f5⟩ : S99), (⟨x.f1.f0, x.f1.f1, x.f1.f2, x.f1.f3, x.f1.f4⟩ : S102), (x.f2.map c201), (x.f3.map c164), x.f4, x.f5, x.f6⟩
theorem cw161 (x : S161) : w105 (c161 x) = w161 x := by
  first | rfl | (simp [w105, c161, w161, Function.comp_def, cw164, cw201])
theorem cws161 (l : List S161) : (l.map c161).length + ((l.map c161).map w105).sum = l.length + (l.map w161).sum := by
  simp only [List.length_map, List.map_map, Function.comp_def, cw161]
theorem toJobS_to (l : List (S161)) (h : (l.length + (l.map w161).sum) ≤ 1048576) : Ev (fun k => laws_toJobS.f k l) (l.map c161) := by
  have H := to_list (l := l) (L0 := laws_toJobS.l0) (z := z105) (conv := c161) (mk := fun b => (⟨(⟨b.1, b.2.1, b.2.2.1, b.2.2.2.1, b.2.2.2.2.1, b.2.2.2.2.2.1⟩ : S99), (⟨b.2.2.2.2.2.2.1, b.2.2.2.2.2.2.2.1, b.2.2.2.2.2.2.2.2.1, b.2.2.2.2.2.2.2.2.2.1, b.2.2.2.2.2.2.2.2.2.2.1⟩ : S102), b.2.2.2.2.2.2.2.2.2.2.2.1, b.2.2.2.2.2.2.2.2.2.2.2.2.1, b.2.2.2.2.2.2.2.2.2.2.2.2.2.1, b.2.2.2.2.2.2.2.2.2.2.2.2.2.2.1, b.2.2.2.2.2.2.2.2.2.2.2.2.2.2.2⟩ : S105)) (t := fun x => (x.f0.f0, x.f0.f1, x.f0.f2, x.f0.f3, x.f0.f4, x.f0.f5, x.f1.f0, x.f1.f1, x.f1.f2, x.f1.f3, x.f1.f4, (x.f2.map c201), (x.f3.map c164), x.f4, x.f5, x.f6)) (step := fun k x => laws_toJob.f k x.f0.f0 x.f0.f1 x.f0.f2 x.f0.f3 x.f0.f4 x.f0.f5 x.f1.f0 x.f1.f1 x.f1.f2 x.f1.f3 x.f1.f4 x.f2 x.f3 x.f4 x.f5 x.f6) (rd := rd_T161) (B := 1407374883553) (fun _ _ _ _ => rfl) getD_get (by omega) (by decide) (fun a ha => ⟨toJob_to a.f0.f0 a.f0.f1 a.f0.f2 a.f0.f3 a.f0.f4 a.f0.f5 a.f1.f0 a.f1.f1 a.f1.f2 a.f1.f3 a.f1.f4 a.f2 a.f3 a.f4 a.f5 a.f6 (mem_w (w := w161) h ha), rfl⟩)
  exact H
theorem toSystem_to (a0_0 : Int) (a0_1 : Int) (a0_2 : Int) (a0_3 : Int) (a0_4 : ByteArray) (l0_5 : List (S149)) (l0_6 : List (S161)) (l0_7 : List (S164)) (h : ((a0_4.size + ((l0_5.length + (l0_5.map w149).sum) + 0)) + ((l0_6.length + (l0_6.map w161).sum) + ((l0_7.length + (l0_7.map w164).sum) + 0))) ≤ 1048576) : Ev (fun k => laws_toSystem.f k a0_0 a0_1 a0_2 a0_3 a0_4 l0_5 l0_6 l0_7) (a0_0, a0_1, a0_2, a0_3, a0_4, l0_5.map c149, l0_6.map c161, l0_7.map c164) := by
  unfold laws_toSystem.f
  exact (Ev.bind (toGeo_to a0_0 a0_1 a0_2 a0_3 (by omega)) (Ev.bind (toMemory_to a0_4 l0_5 (by omega)) (Ev.bind (toJobS_to l0_6 (by omega)) (Ev.bind (toSealingS_to l0_7 (by omega)) (Ev.now _)))))
theorem toItem_to (a0_0 : ByteArray) (a0_1 : Bool) (a0_2 : ByteArray) (h : (a0_0.size + (a0_2.size + 0)) ≤ 1048576) : Ev (fun k => laws_toItem.f a0_0 a0_1 a0_2) (a0_0, a0_1, a0_2) := by
  unfold laws_toItem.f
  exact (Ev.now _)
def w176 (x : S176) : Nat := (x.f0.size + (x.f2.size + 0))
def c205 (x : S205) : S176 := ⟨x.f0, x.f1, x.f2⟩
theorem cw205 (x : S205) : w176 (c205 x) = w205 x := by
  first | rfl | (simp [w176, c205, w205, Function.comp_def])
theorem cws205 (l : List S205) : (l.map c205).length + ((l.map c205).map w176).sum = l.length + (l.map w205).sum := by
  simp only [List.length_map, List.map_map, Function.comp_def, cw205]
theorem toItemS_to (l : List (S205)) (h : (l.length + (l.map w205).sum) ≤ 1048576) : Ev (fun k => laws_toItemS.f k l) (l.map c205) := by
  have H := to_list (l := l) (L0 := laws_toItemS.l0) (z := z176) (conv := c205) (mk := fun b => (⟨b.1, b.2.1, b.2.2⟩ : S176)) (t := fun x => (x.f0, x.f1, x.f2)) (step := fun k x => laws_toItem.f x.f0 x.f1 x.f2) (rd := rd_T205) (B := 7036874417766) (fun _ _ _ _ => rfl) getD_get (by omega) (by decide) (fun a ha => ⟨toItem_to a.f0 a.f1 a.f2 (mem_w (w := w205) h ha), rfl⟩)
  exact H
theorem toView_to (l0_0 : List (S205)) (h : ((l0_0.length + (l0_0.map w205).sum) + 0) ≤ 1048576) : Ev (fun k => laws_toView.f k l0_0) (l0_0.map c205) := by
  unfold laws_toView.f
  exact (Ev.bind (toItemS_to l0_0 (by omega)) (Ev.now _))
def w117 (x : S117) : Nat := ((x.f0.length + (x.f0.map w176).sum) + 0)
def c174 (x : S174) : S117 := ⟨(x.f0.map c205)⟩
theorem cw174 (x : S174) : w117 (c174 x) = w174 x := by
  first | rfl | (simp [w117, c174, w174, Function.comp_def, cw205])
theorem cws174 (l : List S174) : (l.map c174).length + ((l.map c174).map w117).sum = l.length + (l.map w174).sum := by
  simp only [List.length_map, List.map_map, Function.comp_def, cw174]
theorem toViewS_to (l : List (S174)) (h : (l.length + (l.map w174).sum) ≤ 1048576) : Ev (fun k => laws_toViewS.f k l) (l.map c174) := by
  have H := to_list (l := l) (L0 := laws_toViewS.l0) (z := z117) (conv := c174) (mk := fun b => (⟨b⟩ : S117)) (t := fun x => ((x.f0.map c205))) (step := fun k x => laws_toView.f k x.f0) (rd := rd_T174) (B := 11728124029610) (fun _ _ _ _ => rfl) getD_get (by omega) (by decide) (fun a ha => ⟨toView_to a.f0 (mem_w (w := w174) h ha), rfl⟩)
  exact H
theorem toWorld_to (a0_0 : Int) (a0_1 : Int) (a0_2 : Int) (a0_3 : Int) (a0_4 : ByteArray) (l0_5 : List (S149)) (l0_6 : List (S161)) (l0_7 : List (S164)) (l0_8 : List (S174)) (l0_9 : List (S174)) (a0_10 : Int) (h : (((a0_4.size + ((l0_5.length + (l0_5.map w149).sum) + 0)) + ((l0_6.length + (l0_6.map w161).sum) + ((l0_7.length + (l0_7.map w164).sum) + 0))) + ((l0_8.length + (l0_8.map w174).sum) + ((l0_9.length + (l0_9.map w174).sum) + 0))) ≤ 1048576) : Ev (fun k => laws_toWorld.f k a0_0 a0_1 a0_2 a0_3 a0_4 l0_5 l0_6 l0_7 l0_8 l0_9 a0_10) (a0_0, a0_1, a0_2, a0_3, a0_4, l0_5.map c149, l0_6.map c161, l0_7.map c164, l0_8.map c174, l0_9.map c174, a0_10) := by
  unfold laws_toWorld.f
  exact (Ev.bind (toSystem_to a0_0 a0_1 a0_2 a0_3 a0_4 l0_5 l0_6 l0_7 (by omega)) (Ev.bind (toViewS_to l0_8 (by omega)) (Ev.bind (toViewS_to l0_9 (by omega)) (Ev.now _))))
theorem eqCell_eq (a0_0 : Int) (a0_1 : ByteArray) (a0_2 : Bool) (h : (a0_1.size + 0) ≤ 1048576) : Ev (fun k => laws_eqCell.f a0_0 a0_1 a0_2 a0_0 a0_1 a0_2) true := by
  unfold laws_eqCell.f
  exact (eqf_if (eqf_if (eqf_bool eqf_end)))
theorem eqCellS_eq (l : List (S155)) (h : (l.length + (l.map w155).sum) ≤ 1048576) : Ev (fun k => laws_eqCellS.f k l l) true := by
  have H := eq_list (l := l) (L0 := laws_eqCellS.l0) (step := fun k x y => laws_eqCell.f x.f0 x.f1 x.f2 y.f0 y.f1 y.f2) (rd := rd_T155) (fun _ _ _ _ => rfl) getD_get (by omega) (fun a ha => eqCell_eq a.f0 a.f1 a.f2 (mem_w (w := w155) h ha))
  exact H
theorem eqMemory_eq (a0_0 : ByteArray) (l0_1 : List (S155)) (h : (a0_0.size + ((l0_1.length + (l0_1.map w155).sum) + 0)) ≤ 1048576) : Ev (fun k => laws_eqMemory.f k a0_0 l0_1 a0_0 l0_1) true := by
  unfold laws_eqMemory.f
  exact (eqf_if (eqf_call (eqCellS_eq l0_1 (by omega)) eqf_end))
theorem eqGeo_eq (a0_0 : Int) (a0_1 : Int) (a0_2 : Int) (a0_3 : Int) (h : 0 ≤ 1048576) : Ev (fun k => laws_eqGeo.f a0_0 a0_1 a0_2 a0_3 a0_0 a0_1 a0_2 a0_3) true := by
  unfold laws_eqGeo.f
  exact (eqf_if (eqf_if (eqf_if (eqf_if eqf_end))))
theorem eqSealing_eq (a0_0 : ByteArray) (a0_1 : ByteArray) (a0_2 : ByteArray) (h : (a0_0.size + (a0_1.size + (a0_2.size + 0))) ≤ 1048576) : Ev (fun k => laws_eqSealing.f a0_0 a0_1 a0_2 a0_0 a0_1 a0_2) true := by
  unfold laws_eqSealing.f
  exact (eqf_if (eqf_if (eqf_if eqf_end)))
theorem eqSealingS_eq (l : List (S166)) (h : (l.length + (l.map w166).sum) ≤ 1048576) : Ev (fun k => laws_eqSealingS.f k l l) true := by
  have H := eq_list (l := l) (L0 := laws_eqSealingS.l0) (step := fun k x y => laws_eqSealing.f x.f0 x.f1 x.f2 y.f0 y.f1 y.f2) (rd := rd_T166) (fun _ _ _ _ => rfl) getD_get (by omega) (fun a ha => eqSealing_eq a.f0 a.f1 a.f2 (mem_w (w := w166) h ha))
  exact H
theorem eqStringS_eq (l : List (ByteArray)) (h : (l.length + (l.map ByteArray.size).sum) ≤ 1048576) : Ev (fun k => laws_eqStringS.f k l l) true := by
  have H := eq_list1 (l := l) (L0 := laws_eqStringS.l0) (c := fun b : ByteArray => b.toList) (rd := rdOf ByteArray.empty) (fun _ _ _ _ => rfl) rdOf_get (by omega)
  exact H
theorem eqResult_eq (a0_0 : Int) (a0_1 : ByteArray) (a0_2 : Int) (a0_3 : Bool) (l0_4 : List (ByteArray)) (h : (a0_1.size + ((l0_4.length + (l0_4.map ByteArray.size).sum) + 0)) ≤ 1048576) : Ev (fun k => laws_eqResult.f k a0_0 a0_1 a0_2 a0_3 l0_4 a0_0 a0_1 a0_2 a0_3 l0_4) true := by
  unfold laws_eqResult.f
  exact (eqf_if (eqf_if (eqf_if (eqf_bool (eqf_call (eqStringS_eq l0_4 (by omega)) eqf_end)))))
theorem eqAsk_eq (a0_0 : Int) (a0_1 : ByteArray) (a0_2 : ByteArray) (a0_3 : Int) (a0_4 : Int) (a0_5 : ByteArray) (h : (a0_1.size + (a0_2.size + (a0_5.size + 0))) ≤ 1048576) : Ev (fun k => laws_eqAsk.f a0_0 a0_1 a0_2 a0_3 a0_4 a0_5 a0_0 a0_1 a0_2 a0_3 a0_4 a0_5) true := by
  unfold laws_eqAsk.f
  exact (eqf_if (eqf_if (eqf_if (eqf_if (eqf_if (eqf_if eqf_end))))))
theorem eqStep_eq (a0_0 : Int) (a0_1 : Int) (a0_2 : ByteArray) (h : (a0_2.size + 0) ≤ 1048576) : Ev (fun k => laws_eqStep.f a0_0 a0_1 a0_2 a0_0 a0_1 a0_2) true := by
  unfold laws_eqStep.f
  exact (eqf_if (eqf_if (eqf_if eqf_end)))
theorem eqStepS_eq (l : List (S195)) (h : (l.length + (l.map w195).sum) ≤ 1048576) : Ev (fun k => laws_eqStepS.f k l l) true := by
  have H := eq_list (l := l) (L0 := laws_eqStepS.l0) (step := fun k x y => laws_eqStep.f x.f0 x.f1 x.f2 y.f0 y.f1 y.f2) (rd := rd_T195) (fun _ _ _ _ => rfl) getD_get (by omega) (fun a ha => eqStep_eq a.f0 a.f1 a.f2 (mem_w (w := w195) h ha))
  exact H
theorem eqJob_eq (a0_0 : Int) (a0_1 : ByteArray) (a0_2 : ByteArray) (a0_3 : Int) (a0_4 : Int) (a0_5 : ByteArray) (a0_6 : Int) (a0_7 : ByteArray) (a0_8 : Int) (a0_9 : Bool) (l0_10 : List (ByteArray)) (l0_11 : List (S195)) (l0_12 : List (S166)) (a0_13 : Int) (a0_14 : Bool) (a0_15 : Bool) (h : ((a0_1.size + (a0_2.size + (a0_5.size + 0))) + ((a0_7.size + ((l0_10.length + (l0_10.map ByteArray.size).sum) + 0)) + ((l0_11.length + (l0_11.map w195).sum) + ((l0_12.length + (l0_12.map w166).sum) + 0)))) ≤ 1048576) : Ev (fun k => laws_eqJob.f k a0_0 a0_1 a0_2 a0_3 a0_4 a0_5 a0_6 a0_7 a0_8 a0_9 l0_10 l0_11 l0_12 a0_13 a0_14 a0_15 a0_0 a0_1 a0_2 a0_3 a0_4 a0_5 a0_6 a0_7 a0_8 a0_9 l0_10 l0_11 l0_12 a0_13 a0_14 a0_15) true := by
  unfold laws_eqJob.f
  exact (eqf_call (eqAsk_eq a0_0 a0_1 a0_2 a0_3 a0_4 a0_5 (by omega)) (eqf_call (eqResult_eq a0_6 a0_7 a0_8 a0_9 l0_10 (by omega)) (eqf_call (eqStepS_eq l0_11 (by omega)) (eqf_call (eqSealingS_eq l0_12 (by omega)) (eqf_if (eqf_bool (eqf_bool eqf_end)))))))
theorem eqJobS_eq (l : List (S105)) (h : (l.length + (l.map w105).sum) ≤ 1048576) : Ev (fun k => laws_eqJobS.f k l l) true := by
  have H := eq_list (l := l) (L0 := laws_eqJobS.l0) (step := fun k x y => laws_eqJob.f k x.f0.f0 x.f0.f1 x.f0.f2 x.f0.f3 x.f0.f4 x.f0.f5 x.f1.f0 x.f1.f1 x.f1.f2 x.f1.f3 x.f1.f4 x.f2 x.f3 x.f4 x.f5 x.f6 y.f0.f0 y.f0.f1 y.f0.f2 y.f0.f3 y.f0.f4 y.f0.f5 y.f1.f0 y.f1.f1 y.f1.f2 y.f1.f3 y.f1.f4 y.f2 y.f3 y.f4 y.f5 y.f6) (rd := rd_T105) (fun _ _ _ _ => rfl) getD_get (by omega) (fun a ha => eqJob_eq a.f0.f0 a.f0.f1 a.f0.f2 a.f0.f3 a.f0.f4 a.f0.f5 a.f1.f0 a.f1.f1 a.f1.f2 a.f1.f3 a.f1.f4 a.f2 a.f3 a.f4 a.f5 a.f6 (mem_w (w := w105) h ha))
  exact H
theorem eqSystem_eq (a0_0 : Int) (a0_1 : Int) (a0_2 : Int) (a0_3 : Int) (a0_4 : ByteArray) (l0_5 : List (S155)) (l0_6 : List (S105)) (l0_7 : List (S166)) (h : ((a0_4.size + ((l0_5.length + (l0_5.map w155).sum) + 0)) + ((l0_6.length + (l0_6.map w105).sum) + ((l0_7.length + (l0_7.map w166).sum) + 0))) ≤ 1048576) : Ev (fun k => laws_eqSystem.f k a0_0 a0_1 a0_2 a0_3 a0_4 l0_5 l0_6 l0_7 a0_0 a0_1 a0_2 a0_3 a0_4 l0_5 l0_6 l0_7) true := by
  unfold laws_eqSystem.f
  exact (eqf_call (eqGeo_eq a0_0 a0_1 a0_2 a0_3 (by omega)) (eqf_call (eqMemory_eq a0_4 l0_5 (by omega)) (eqf_call (eqJobS_eq l0_6 (by omega)) (eqf_call (eqSealingS_eq l0_7 (by omega)) eqf_end))))
theorem eqItem_eq (a0_0 : ByteArray) (a0_1 : Bool) (a0_2 : ByteArray) (h : (a0_0.size + (a0_2.size + 0)) ≤ 1048576) : Ev (fun k => laws_eqItem.f a0_0 a0_1 a0_2 a0_0 a0_1 a0_2) true := by
  unfold laws_eqItem.f
  exact (eqf_if (eqf_bool (eqf_if eqf_end)))
theorem eqItemS_eq (l : List (S176)) (h : (l.length + (l.map w176).sum) ≤ 1048576) : Ev (fun k => laws_eqItemS.f k l l) true := by
  have H := eq_list (l := l) (L0 := laws_eqItemS.l0) (step := fun k x y => laws_eqItem.f x.f0 x.f1 x.f2 y.f0 y.f1 y.f2) (rd := rd_T176) (fun _ _ _ _ => rfl) getD_get (by omega) (fun a ha => eqItem_eq a.f0 a.f1 a.f2 (mem_w (w := w176) h ha))
  exact H
theorem eqView_eq (l0_0 : List (S176)) (h : ((l0_0.length + (l0_0.map w176).sum) + 0) ≤ 1048576) : Ev (fun k => laws_eqView.f k l0_0 l0_0) true := by
  unfold laws_eqView.f
  exact (eqf_call (eqItemS_eq l0_0 (by omega)) eqf_end)
theorem eqViewS_eq (l : List (S117)) (h : (l.length + (l.map w117).sum) ≤ 1048576) : Ev (fun k => laws_eqViewS.f k l l) true := by
  have H := eq_list (l := l) (L0 := laws_eqViewS.l0) (step := fun k x y => laws_eqView.f k x.f0 y.f0) (rd := rd_T117) (fun _ _ _ _ => rfl) getD_get (by omega) (fun a ha => eqView_eq a.f0 (mem_w (w := w117) h ha))
  exact H
theorem eqWorld_eq (a0_0 : Int) (a0_1 : Int) (a0_2 : Int) (a0_3 : Int) (a0_4 : ByteArray) (l0_5 : List (S155)) (l0_6 : List (S105)) (l0_7 : List (S166)) (l0_8 : List (S117)) (l0_9 : List (S117)) (a0_10 : Int) (h : (((a0_4.size + ((l0_5.length + (l0_5.map w155).sum) + 0)) + ((l0_6.length + (l0_6.map w105).sum) + ((l0_7.length + (l0_7.map w166).sum) + 0))) + ((l0_8.length + (l0_8.map w117).sum) + ((l0_9.length + (l0_9.map w117).sum) + 0))) ≤ 1048576) : Ev (fun k => laws_eqWorld.f k a0_0 a0_1 a0_2 a0_3 a0_4 l0_5 l0_6 l0_7 l0_8 l0_9 a0_10 a0_0 a0_1 a0_2 a0_3 a0_4 l0_5 l0_6 l0_7 l0_8 l0_9 a0_10) true := by
  unfold laws_eqWorld.f
  exact (eqf_call (eqSystem_eq a0_0 a0_1 a0_2 a0_3 a0_4 l0_5 l0_6 l0_7 (by omega)) (eqf_call (eqViewS_eq l0_8 (by omega)) (eqf_call (eqViewS_eq l0_9 (by omega)) (eqf_if eqf_end))))
end Go.Proofs.Ytconffflmbakgaa.QFnExactOneOf
