/-
  Sizes, copies and comparisons of FnExactCodesTo: what the functions sz.., to.., eq.. of the law answer.
-/
import Derived.Test.YtklghegofjigoaaOpenFnExactCodesTo
import Derived.Test.YtklghegofjigoaaKit
import Derived.Test.YtklghegofjigoaaQFnExactCodesTox1
import Derived.Test.YtklghegofjigoaaQFnExactCodesTox2
import Derived.Test.YtklghegofjigoaaQFnExactCodesTox3
import Derived.Test.YtklghegofjigoaaQFnExactCodesTox4
namespace Go.Proofs.Ytklghegofjigoaa.QFnExactCodesTo
open Go.RowKit Go.Proofs.YtklghegofjigoaaW.PrintWords Go.Proofs.Ytklghegofjigoaa.Opens Go.Proofs.Ytklghegofjigoaa.Kit
set_option linter.unusedVariables false
set_option linter.unusedSimpArgs false
theorem szStringS_sz (l : List (ByteArray)) (h : (l.length * 16 ≤ 140737488351232 ∧ ∀ y ∈ l, y.size ≤ 140737488351232)) : Szf (fun k a => laws_szStringS.f k l a) (l.length + (l.map ByteArray.size).sum) := by
  have H := szf_list1 (l := l) (L0 := laws_szStringS.l0) (rd := rdOf ByteArray.empty) (fun _ _ _ _ => rfl) rdOf_get (by have := h.1; omega) h.2
  exact H
theorem szResult_sz (a0_0 : Int) (a0_1 : ByteArray) (a0_2 : Int) (a0_3 : Bool) (l0_4 : List (ByteArray)) (h0_1 : a0_1.size ≤ 140737488351232) (h0_4 : (l0_4.length * 16 ≤ 140737488351232 ∧ ∀ y ∈ l0_4, y.size ≤ 140737488351232)) : Szf (fun k a => laws_szResult.f k a0_0 a0_1 a0_2 a0_3 l0_4 a) (a0_1.size + ((l0_4.length + (l0_4.map ByteArray.size).sum) + 0)) := by
  have H := (szf_str h0_1 (szf_seq (szStringS_sz l0_4 h0_4) szf_ret))
  exact H
theorem szTold_sz (a0_0 : Int) (a0_1 : Int) (a0_2 : Bool) (a0_3 : Int) (a0_4 : ByteArray) (a0_5 : Int) (a0_6 : Bool) (l0_7 : List (ByteArray)) (h0_4 : a0_4.size ≤ 140737488351232) (h0_7 : (l0_7.length * 16 ≤ 140737488351232 ∧ ∀ y ∈ l0_7, y.size ≤ 140737488351232)) : Szf (fun k a => laws_szTold.f k a0_0 a0_1 a0_2 a0_3 a0_4 a0_5 a0_6 l0_7 a) ((a0_4.size + ((l0_7.length + (l0_7.map ByteArray.size).sum) + 0)) + 0) := by
  have H := (szf_seq (szResult_sz a0_3 a0_4 a0_5 a0_6 l0_7 h0_4 h0_7) szf_ret)
  exact H
def w122 (x : S122) : Nat := (x.f1.size + ((x.f4.length + (x.f4.map ByteArray.size).sum) + 0))
def w124 (x : S124) : Nat := ((x.f3.f1.size + ((x.f3.f4.length + (x.f3.f4.map ByteArray.size).sum) + 0)) + 0)
theorem szToldS_sz (l : List (S124)) (h : (l.length * 88 ≤ 140737488351232 ∧ ∀ y ∈ l, wf124 y)) : Szf (fun k a => laws_szToldS.f k l a) (l.length + (l.map w124).sum) := by
  have H := szf_list (l := l) (L0 := laws_szToldS.l0) (step := fun k x s => laws_szTold.f k x.f0 x.f1 x.f2 x.f3.f0 x.f3.f1 x.f3.f2 x.f3.f3 x.f3.f4 s) (rd := rd_T124) (fun _ _ _ _ => rfl) getD_get (by have := h.1; omega) (fun a ha => szTold_sz a.f0 a.f1 a.f2 a.f3.f0 a.f3.f1 a.f3.f2 a.f3.f3 a.f3.f4 (h.2 a ha).2.2.2.2.1 (h.2 a ha).2.2.2.2.2.2.2)
  exact H
theorem toStringS_to (l : List (ByteArray)) (h : (l.length + (l.map ByteArray.size).sum) ≤ 1048576) : Ev (fun k => laws_toStringS.f k l) l := by
  have H := to_list1 (l := l) (L0 := laws_toStringS.l0) (z := (⟨#[]⟩ : ByteArray)) (rd := rdOf ByteArray.empty) (B := 17592186044416) (fun _ _ _ _ => rfl) rdOf_get (by omega) (by decide)
  exact H
theorem toResult_to (a0_0 : Int) (a0_1 : ByteArray) (a0_2 : Int) (a0_3 : Bool) (l0_4 : List (ByteArray)) (h : (a0_1.size + ((l0_4.length + (l0_4.map ByteArray.size).sum) + 0)) ≤ 1048576) : Ev (fun k => laws_toResult.f k a0_0 a0_1 a0_2 a0_3 l0_4) (a0_0, a0_1, a0_2, a0_3, l0_4) := by
  unfold laws_toResult.f
  exact (Ev.bind (toStringS_to l0_4 (by omega)) (Ev.now _))
theorem toTold_to (a0_0 : Int) (a0_1 : Int) (a0_2 : Bool) (a0_3 : Int) (a0_4 : ByteArray) (a0_5 : Int) (a0_6 : Bool) (l0_7 : List (ByteArray)) (h : ((a0_4.size + ((l0_7.length + (l0_7.map ByteArray.size).sum) + 0)) + 0) ≤ 1048576) : Ev (fun k => laws_toTold.f k a0_0 a0_1 a0_2 a0_3 a0_4 a0_5 a0_6 l0_7) (a0_0, a0_1, a0_2, a0_3, a0_4, a0_5, a0_6, l0_7) := by
  unfold laws_toTold.f
  exact (Ev.bind (toResult_to a0_3 a0_4 a0_5 a0_6 l0_7 (by omega)) (Ev.now _))
def w125 (x : S125) : Nat := (x.f1.size + ((x.f4.length + (x.f4.map ByteArray.size).sum) + 0))
def c122 (x : S122) : S125 := ⟨x.f0, x.f1, x.f2, x.f3, x.f4⟩
theorem cw122 (x : S122) : w125 (c122 x) = w122 x := by
  first | rfl | (simp [w125, c122, w122, Function.comp_def])
theorem cws122 (l : List S122) : (l.map c122).length + ((l.map c122).map w125).sum = l.length + (l.map w122).sum := by
  simp only [List.length_map, List.map_map, Function.comp_def, cw122]
def w127 (x : S127) : Nat := ((x.f3.f1.size + ((x.f3.f4.length + (x.f3.f4.map ByteArray.size).sum) + 0)) + 0)
def c124 (x : S124) : S127 := ⟨x.f0, x.f1, x.f2, (⟨x.f3.f0, x.f3.f1, x.f3.f2, x.f3.f3, x.f3.f4⟩ : S125)⟩
theorem cw124 (x : S124) : w127 (c124 x) = w124 x := by
  first | rfl | (simp [w127, c124, w124, Function.comp_def])
theorem cws124 (l : List S124) : (l.map c124).length + ((l.map c124).map w127).sum = l.length + (l.map w124).sum := by
  simp only [List.length_map, List.map_map, Function.comp_def, cw124]
theorem toToldS_to (l : List (S124)) (h : (l.length + (l.map w124).sum) ≤ 1048576) : Ev (fun k => laws_toToldS.f k l) (l.map c124) := by
  have H := to_list (l := l) (L0 := laws_toToldS.l0) (z := z127) (conv := c124) (mk := fun b => (⟨b.1, b.2.1, b.2.2.1, (⟨b.2.2.2.1, b.2.2.2.2.1, b.2.2.2.2.2.1, b.2.2.2.2.2.2.1, b.2.2.2.2.2.2.2⟩ : S125)⟩ : S127)) (t := fun x => (x.f0, x.f1, x.f2, x.f3.f0, x.f3.f1, x.f3.f2, x.f3.f3, x.f3.f4)) (step := fun k x => laws_toTold.f k x.f0 x.f1 x.f2 x.f3.f0 x.f3.f1 x.f3.f2 x.f3.f3 x.f3.f4) (rd := rd_T124) (B := 3198579280802) (fun _ _ _ _ => rfl) getD_get (by omega) (by decide) (fun a ha => ⟨toTold_to a.f0 a.f1 a.f2 a.f3.f0 a.f3.f1 a.f3.f2 a.f3.f3 a.f3.f4 (mem_w (w := w124) h ha), rfl⟩)
  exact H
theorem eqIntS_eq (l : List (Int)) (h : (l.length + 0) ≤ 1048576) : Ev (fun k => laws_eqIntS.f k l l) true := by
  have H := eq_list1 (l := l) (L0 := laws_eqIntS.l0) (c := fun b : Int => b) (rd := rd) (fun _ _ _ _ => rfl) getD_get (by omega)
  exact H
theorem eqStringS_eq (l : List (ByteArray)) (h : (l.length + (l.map ByteArray.size).sum) ≤ 1048576) : Ev (fun k => laws_eqStringS.f k l l) true := by
  have H := eq_list1 (l := l) (L0 := laws_eqStringS.l0) (c := fun b : ByteArray => b.toList) (rd := rdOf ByteArray.empty) (fun _ _ _ _ => rfl) rdOf_get (by omega)
  exact H
theorem eqResult_eq (a0_0 : Int) (a0_1 : ByteArray) (a0_2 : Int) (a0_3 : Bool) (l0_4 : List (ByteArray)) (h : (a0_1.size + ((l0_4.length + (l0_4.map ByteArray.size).sum) + 0)) ≤ 1048576) : Ev (fun k => laws_eqResult.f k a0_0 a0_1 a0_2 a0_3 l0_4 a0_0 a0_1 a0_2 a0_3 l0_4) true := by
  unfold laws_eqResult.f
  exact (eqf_if (eqf_if (eqf_if (eqf_bool (eqf_call (eqStringS_eq l0_4 (by omega)) eqf_end)))))
theorem eqTold_eq (a0_0 : Int) (a0_1 : Int) (a0_2 : Bool) (a0_3 : Int) (a0_4 : ByteArray) (a0_5 : Int) (a0_6 : Bool) (l0_7 : List (ByteArray)) (h : ((a0_4.size + ((l0_7.length + (l0_7.map ByteArray.size).sum) + 0)) + 0) ≤ 1048576) : Ev (fun k => laws_eqTold.f k a0_0 a0_1 a0_2 a0_3 a0_4 a0_5 a0_6 l0_7 a0_0 a0_1 a0_2 a0_3 a0_4 a0_5 a0_6 l0_7) true := by
  unfold laws_eqTold.f
  exact (eqf_if (eqf_if (eqf_bool (eqf_call (eqResult_eq a0_3 a0_4 a0_5 a0_6 l0_7 (by omega)) eqf_end))))
theorem eqToldS_eq (l : List (S127)) (h : (l.length + (l.map w127).sum) ≤ 1048576) : Ev (fun k => laws_eqToldS.f k l l) true := by
  have H := eq_list (l := l) (L0 := laws_eqToldS.l0) (step := fun k x y => laws_eqTold.f k x.f0 x.f1 x.f2 x.f3.f0 x.f3.f1 x.f3.f2 x.f3.f3 x.f3.f4 y.f0 y.f1 y.f2 y.f3.f0 y.f3.f1 y.f3.f2 y.f3.f3 y.f3.f4) (rd := rd_T127) (fun _ _ _ _ => rfl) getD_get (by omega) (fun a ha => eqTold_eq a.f0 a.f1 a.f2 a.f3.f0 a.f3.f1 a.f3.f2 a.f3.f3 a.f3.f4 (mem_w (w := w127) h ha))
  exact H
-- laws_markToldS: rows inside the elements
noncomputable def mt (c : Int) : ByteArray := mtOf laws_markText.f c
theorem mt_ev (c : Int) (hc : c ≤ 1125899906842624) : Ev (fun k => laws_markText.f k c) (mt c) := mtOf_ev (markText_ex (F := laws_markText.f) (L0 := laws_markText.l0) (fun _ _ => rfl) (fun _ _ _ => rfl) c hc)
noncomputable def mkIntS (c : Int) (_ : Int) : Int := (c)
theorem markIntS_at (l : List (Int)) (h : l.length ≤ 1048576) (c0 : Int) (h0 : 1 ≤ c0) (h0' : c0 ≤ 1099511627776) : Ev (fun k => laws_markIntS.f k l c0) (c0 + (((l.map fun _ => (1 : Nat)).sum : Nat) : Int), markAll mkIntS (fun _ => 1) c0 l) := by
  have hsum := sum_const 1 l
  refine mark_ev mkIntS (fun _ => 1) (fun _ => True) (fun k s i => laws_markIntS.l0 k s.1 s.2 i) ?_ ?_ h (fun _ _ => trivial) c0 h0 (by omega)
  · intro k s
    simp only [laws_markIntS.l0, if_neg (Int.lt_irrefl _)]
  · intro y c i a hget hlt hy _ h1 h2 r ih
    have e : wrap64 ((i : Int) + 1) = (i : Int) + 1 := w64 (by omega) (by omega)
    have hr : rd y (i : Int) = a := getD_get i a hget
    have hs : ∀ v, rd (y.set i v) (i : Int) = v := fun v => getD_get i v (by simp [hlt])
    have v1 : wrap64 (c + 1) = c + 1 := w64 (by omega) (by omega)
    have hc : c + ((1 : Nat) : Int) = c + 1 := by omega
    (try dsimp only at ih)
    rw [hc] at ih
    refine ev_succ ?_
    simp only [laws_markIntS.l0, if_pos (show (i : Int) < (y.length : Int) by omega), if_pos (show (0 : Int) ≤ (i : Int) by omega), Option.bind_some, Int.toNat_natCast, List.set_set, e, hr, hs, v1]
    exact ih
theorem markIntS_mk (l : List (Int)) (h : l.length ≤ 1048576) : Ev (fun k => laws_markIntS.f k l 1) (1 + (((l.map fun _ => (1 : Nat)).sum : Nat) : Int), markAll mkIntS (fun _ => 1) 1 l) := markIntS_at l h 1 (by decide) (by decide)
theorem heldIntS_hd (l : List (Int)) (h : l.length ≤ 1048576) : Ev (fun k => laws_heldIntS.f k (markAll mkIntS (fun _ => 1) 1 l) 1) (1 + (((l.map fun _ => (1 : Nat)).sum : Nat) : Int)) := by
  have hsum := sum_const 1 l
  have hxl := markAll_length mkIntS (fun _ => 1) l 1
  refine held_ev (l := l) mkIntS (fun _ => 1) (fun _ => True) 1 _ rfl (fun k c i => laws_heldIntS.l0 k (markAll mkIntS (fun _ => 1) 1 l) c i) ?_ ?_ (fun _ _ => trivial) (by omega) (by omega)
  · intro k c
    simp only [laws_heldIntS.l0, if_neg (Int.lt_irrefl _)]
  · intro c i a hget hlt _ h1 h2 r ih
    have e : wrap64 ((i : Int) + 1) = (i : Int) + 1 := w64 (by omega) (by omega)
    have hr : rd (markAll mkIntS (fun _ => 1) 1 l) (i : Int) = mkIntS c a := getD_get i _ hget
    have v1 : wrap64 (c + 1) = c + 1 := w64 (by omega) (by omega)
    have hc : c + ((1 : Nat) : Int) = c + 1 := by omega
    (try dsimp only at ih)
    rw [hc] at ih
    refine ev_succ ?_
    simp only [laws_heldIntS.l0, if_pos (show (i : Int) < ((markAll mkIntS (fun _ => 1) 1 l).length : Int) by omega), if_pos (show (0 : Int) ≤ (i : Int) by omega), e, hr, mkIntS, eq_self, ↓reduceIte, v1]
    exact ih
end Go.Proofs.Ytklghegofjigoaa.QFnExactCodesTo
