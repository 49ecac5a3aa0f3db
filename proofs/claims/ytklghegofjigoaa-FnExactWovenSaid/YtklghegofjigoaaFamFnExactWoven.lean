/-
  Sizes, copies and comparisons of FnExactWoven: what the functions sz.., to.., eq.. of the law answer.
-/
import Derived.Test.YtklghegofjigoaaOpenFnExactWoven
import Derived.Test.YtklghegofjigoaaKit
import Derived.Test.YtklghegofjigoaaQFnExactWovenx1
import Derived.Test.YtklghegofjigoaaQFnExactWovenx2
import Derived.Test.YtklghegofjigoaaQFnExactWovenx3
import Derived.Test.YtklghegofjigoaaQFnExactWovenx4
import Derived.Test.YtklghegofjigoaaQFnExactWovenx5
namespace Go.Proofs.Ytklghegofjigoaa.QFnExactWoven
open Go.RowKit Go.Proofs.YtklghegofjigoaaW.PrintWords Go.Proofs.Ytklghegofjigoaa.Opens Go.Proofs.Ytklghegofjigoaa.Kit
set_option linter.unusedVariables false
set_option linter.unusedSimpArgs false
theorem szAsk_sz (a0_0 : Int) (a0_1 : ByteArray) (a0_2 : ByteArray) (a0_3 : Int) (a0_4 : Int) (a0_5 : ByteArray) (h0_1 : a0_1.size ≤ 140737488351232) (h0_2 : a0_2.size ≤ 140737488351232) (h0_5 : a0_5.size ≤ 140737488351232) : Szf (fun k a => laws_szAsk.f a0_0 a0_1 a0_2 a0_3 a0_4 a0_5 a) (a0_1.size + (a0_2.size + (a0_5.size + 0))) := by
  have H := (szf_str h0_1 (szf_str h0_2 (szf_str h0_5 szf_ret)))
  exact H
theorem szAct_sz (a0_0 : Int) (a0_1 : Int) (a0_2 : Int) (a0_3 : ByteArray) (a0_4 : ByteArray) (a0_5 : Int) (a0_6 : Int) (a0_7 : ByteArray) (a0_8 : Int) (h0_3 : a0_3.size ≤ 140737488351232) (h0_4 : a0_4.size ≤ 140737488351232) (h0_7 : a0_7.size ≤ 140737488351232) : Szf (fun k a => laws_szAct.f a0_0 a0_1 a0_2 a0_3 a0_4 a0_5 a0_6 a0_7 a0_8 a) ((a0_3.size + (a0_4.size + (a0_7.size + 0))) + 0) := by
  have H := (szf_seq (szAsk_sz a0_2 a0_3 a0_4 a0_5 a0_6 a0_7 h0_3 h0_4 h0_7) szf_ret)
  exact H
def w102 (x : S102) : Nat := (x.f1.size + (x.f2.size + (x.f5.size + 0)))
def w104 (x : S104) : Nat := ((x.f2.f1.size + (x.f2.f2.size + (x.f2.f5.size + 0))) + 0)
theorem szActS_sz (l : List (S104)) (h : (l.length * 96 ≤ 140737488351232 ∧ ∀ y ∈ l, wf104 y)) : Szf (fun k a => laws_szActS.f k l a) (l.length + (l.map w104).sum) := by
  have H := szf_list (l := l) (L0 := laws_szActS.l0) (step := fun k x s => laws_szAct.f x.f0 x.f1 x.f2.f0 x.f2.f1 x.f2.f2 x.f2.f3 x.f2.f4 x.f2.f5 x.f3 s) (rd := rd_T104) (fun _ _ _ _ => rfl) getD_get (by have := h.1; omega) (fun a ha => szAct_sz a.f0 a.f1 a.f2.f0 a.f2.f1 a.f2.f2 a.f2.f3 a.f2.f4 a.f2.f5 a.f3 (h.2 a ha).2.2.1.2.1 (h.2 a ha).2.2.1.2.2.1 (h.2 a ha).2.2.1.2.2.2.2.2)
  exact H
theorem toAsk_to (a0_0 : Int) (a0_1 : ByteArray) (a0_2 : ByteArray) (a0_3 : Int) (a0_4 : Int) (a0_5 : ByteArray) (h : (a0_1.size + (a0_2.size + (a0_5.size + 0))) ≤ 1048576) : Ev (fun k => laws_toAsk.f a0_0 a0_1 a0_2 a0_3 a0_4 a0_5) (a0_0, a0_1, a0_2, a0_3, a0_4, a0_5) := by
  unfold laws_toAsk.f
  exact (Ev.now _)
theorem toAct_to (a0_0 : Int) (a0_1 : Int) (a0_2 : Int) (a0_3 : ByteArray) (a0_4 : ByteArray) (a0_5 : Int) (a0_6 : Int) (a0_7 : ByteArray) (a0_8 : Int) (h : ((a0_3.size + (a0_4.size + (a0_7.size + 0))) + 0) ≤ 1048576) : Ev (fun k => laws_toAct.f a0_0 a0_1 a0_2 a0_3 a0_4 a0_5 a0_6 a0_7 a0_8) (a0_0, a0_1, a0_2, a0_3, a0_4, a0_5, a0_6, a0_7, a0_8) := by
  unfold laws_toAct.f
  exact (Ev.bind (toAsk_to a0_2 a0_3 a0_4 a0_5 a0_6 a0_7 (by omega)) (Ev.now _))
def w31 (x : S31) : Nat := (x.f1.size + (x.f2.size + (x.f5.size + 0)))
def c102 (x : S102) : S31 := ⟨x.f0, x.f1, x.f2, x.f3, x.f4, x.f5⟩
theorem cw102 (x : S102) : w31 (c102 x) = w102 x := by
  first | rfl | (simp [w31, c102, w102, Function.comp_def])
theorem cws102 (l : List S102) : (l.map c102).length + ((l.map c102).map w31).sum = l.length + (l.map w102).sum := by
  simp only [List.length_map, List.map_map, Function.comp_def, cw102]
def w33 (x : S33) : Nat := ((x.f2.f1.size + (x.f2.f2.size + (x.f2.f5.size + 0))) + 0)
def c104 (x : S104) : S33 := ⟨x.f0, x.f1, (⟨x.f2.f0, x.f2.f1, x.f2.f2, x.f2.f3, x.f2.f4, x.f2.f5⟩ : S31), x.f3⟩
theorem cw104 (x : S104) : w33 (c104 x) = w104 x := by
  first | rfl | (simp [w33, c104, w104, Function.comp_def])
theorem cws104 (l : List S104) : (l.map c104).length + ((l.map c104).map w33).sum = l.length + (l.map w104).sum := by
  simp only [List.length_map, List.map_map, Function.comp_def, cw104]
theorem toActS_to (l : List (S104)) (h : (l.length + (l.map w104).sum) ≤ 1048576) : Ev (fun k => laws_toActS.f k l) (l.map c104) := by
  have H := to_list (l := l) (L0 := laws_toActS.l0) (z := z33) (conv := c104) (mk := fun b => (⟨b.1, b.2.1, (⟨b.2.2.1, b.2.2.2.1, b.2.2.2.2.1, b.2.2.2.2.2.1, b.2.2.2.2.2.2.1, b.2.2.2.2.2.2.2.1⟩ : S31), b.2.2.2.2.2.2.2.2⟩ : S33)) (t := fun x => (x.f0, x.f1, x.f2.f0, x.f2.f1, x.f2.f2, x.f2.f3, x.f2.f4, x.f2.f5, x.f3)) (step := fun k x => laws_toAct.f x.f0 x.f1 x.f2.f0 x.f2.f1 x.f2.f2 x.f2.f3 x.f2.f4 x.f2.f5 x.f3) (rd := rd_T104) (B := 2932031007402) (fun _ _ _ _ => rfl) getD_get (by omega) (by decide) (fun a ha => ⟨toAct_to a.f0 a.f1 a.f2.f0 a.f2.f1 a.f2.f2 a.f2.f3 a.f2.f4 a.f2.f5 a.f3 (mem_w (w := w104) h ha), rfl⟩)
  exact H
theorem eqAsk_eq (a0_0 : Int) (a0_1 : ByteArray) (a0_2 : ByteArray) (a0_3 : Int) (a0_4 : Int) (a0_5 : ByteArray) (h : (a0_1.size + (a0_2.size + (a0_5.size + 0))) ≤ 1048576) : Ev (fun k => laws_eqAsk.f a0_0 a0_1 a0_2 a0_3 a0_4 a0_5 a0_0 a0_1 a0_2 a0_3 a0_4 a0_5) true := by
  unfold laws_eqAsk.f
  exact (eqf_if (eqf_if (eqf_if (eqf_if (eqf_if (eqf_if eqf_end))))))
theorem eqAct_eq (a0_0 : Int) (a0_1 : Int) (a0_2 : Int) (a0_3 : ByteArray) (a0_4 : ByteArray) (a0_5 : Int) (a0_6 : Int) (a0_7 : ByteArray) (a0_8 : Int) (h : ((a0_3.size + (a0_4.size + (a0_7.size + 0))) + 0) ≤ 1048576) : Ev (fun k => laws_eqAct.f a0_0 a0_1 a0_2 a0_3 a0_4 a0_5 a0_6 a0_7 a0_8 a0_0 a0_1 a0_2 a0_3 a0_4 a0_5 a0_6 a0_7 a0_8) true := by
  unfold laws_eqAct.f
  exact (eqf_if (eqf_if (eqf_call (eqAsk_eq a0_2 a0_3 a0_4 a0_5 a0_6 a0_7 (by omega)) (eqf_if eqf_end))))
theorem eqActS_eq (l : List (S33)) (h : (l.length + (l.map w33).sum) ≤ 1048576) : Ev (fun k => laws_eqActS.f k l l) true := by
  have H := eq_list (l := l) (L0 := laws_eqActS.l0) (step := fun k x y => laws_eqAct.f x.f0 x.f1 x.f2.f0 x.f2.f1 x.f2.f2 x.f2.f3 x.f2.f4 x.f2.f5 x.f3 y.f0 y.f1 y.f2.f0 y.f2.f1 y.f2.f2 y.f2.f3 y.f2.f4 y.f2.f5 y.f3) (rd := rd_T33) (fun _ _ _ _ => rfl) getD_get (by omega) (fun a ha => eqAct_eq a.f0 a.f1 a.f2.f0 a.f2.f1 a.f2.f2 a.f2.f3 a.f2.f4 a.f2.f5 a.f3 (mem_w (w := w33) h ha))
  exact H
noncomputable def mt (c : Int) : ByteArray := mtOf laws_markText.f c
theorem mt_ev (c : Int) (hc : c ≤ 1125899906842624) : Ev (fun k => laws_markText.f k c) (mt c) := mtOf_ev (markText_ex (F := laws_markText.f) (L0 := laws_markText.l0) (fun _ _ => rfl) (fun _ _ _ => rfl) c hc)
noncomputable def mkActS (c : Int) (_ : S33) : S33 := (⟨(c), (c + 1), (⟨(c + 1 + 1), mt (c + 1 + 1 + 1), mt (c + 1 + 1 + 1 + 1), (c + 1 + 1 + 1 + 1 + 1), (c + 1 + 1 + 1 + 1 + 1 + 1), mt (c + 1 + 1 + 1 + 1 + 1 + 1 + 1)⟩ : S31), (c + 1 + 1 + 1 + 1 + 1 + 1 + 1 + 1)⟩ : S33)
theorem markActS_at (l : List (S33)) (h : l.length ≤ 1048576) (c0 : Int) (h0 : 1 ≤ c0) (h0' : c0 ≤ 1099511627776) : Ev (fun k => laws_markActS.f k l c0) (c0 + (((l.map fun _ => (9 : Nat)).sum : Nat) : Int), markAll mkActS (fun _ => 9) c0 l) := by
  have hsum := sum_const 9 l
  refine mark_ev mkActS (fun _ => 9) (fun _ => True) (fun k s i => laws_markActS.l0 k s.1 s.2 i) ?_ ?_ h (fun _ _ => trivial) c0 h0 (by omega)
  · intro k s
    simp only [laws_markActS.l0, if_neg (Int.lt_irrefl _)]
  · intro y c i a hget hlt hy _ h1 h2 r ih
    have e : wrap64 ((i : Int) + 1) = (i : Int) + 1 := w64 (by omega) (by omega)
    have hr : rd_T33 y (i : Int) = a := getD_get i a hget
    have hs : ∀ v, rd_T33 (y.set i v) (i : Int) = v := fun v => getD_get i v (by simp [hlt])
    have v1 : wrap64 (c + 1) = c + 1 := w64 (by omega) (by omega)
    have v2 : wrap64 (c + 1 + 1) = c + 1 + 1 := w64 (by omega) (by omega)
    have v3 : wrap64 (c + 1 + 1 + 1) = c + 1 + 1 + 1 := w64 (by omega) (by omega)
    have v4 : wrap64 (c + 1 + 1 + 1 + 1) = c + 1 + 1 + 1 + 1 := w64 (by omega) (by omega)
    have v5 : wrap64 (c + 1 + 1 + 1 + 1 + 1) = c + 1 + 1 + 1 + 1 + 1 := w64 (by omega) (by omega)
    have v6 : wrap64 (c + 1 + 1 + 1 + 1 + 1 + 1) = c + 1 + 1 + 1 + 1 + 1 + 1 := w64 (by omega) (by omega)
    have v7 : wrap64 (c + 1 + 1 + 1 + 1 + 1 + 1 + 1) = c + 1 + 1 + 1 + 1 + 1 + 1 + 1 := w64 (by omega) (by omega)
    have v8 : wrap64 (c + 1 + 1 + 1 + 1 + 1 + 1 + 1 + 1) = c + 1 + 1 + 1 + 1 + 1 + 1 + 1 + 1 := w64 (by omega) (by omega)
    have v9 : wrap64 (c + 1 + 1 + 1 + 1 + 1 + 1 + 1 + 1 + 1) = c + 1 + 1 + 1 + 1 + 1 + 1 + 1 + 1 + 1 := w64 (by omega) (by omega)
    have hc : c + ((9 : Nat) : Int) = c + 1 + 1 + 1 + 1 + 1 + 1 + 1 + 1 + 1 := by omega
    (try dsimp only at ih)
    rw [hc] at ih
    refine ev_succ ?_
    simp only [laws_markActS.l0, if_pos (show (i : Int) < (y.length : Int) by omega), if_pos (show (0 : Int) ≤ (i : Int) by omega), Option.bind_some, Int.toNat_natCast, List.set_set, e, hr, hs, v1, v2, v3, v4, v5, v6, v7, v8, v9]
    refine Ev.bind (mt_ev (c + 1 + 1 + 1) (by omega)) ?_
    (try simp only [Option.bind_some, Int.toNat_natCast, List.set_set, e, hr, hs, v1, v2, v3, v4, v5, v6, v7, v8, v9])
    refine Ev.bind (mt_ev (c + 1 + 1 + 1 + 1) (by omega)) ?_
    (try simp only [Option.bind_some, Int.toNat_natCast, List.set_set, e, hr, hs, v1, v2, v3, v4, v5, v6, v7, v8, v9])
    refine Ev.bind (mt_ev (c + 1 + 1 + 1 + 1 + 1 + 1 + 1) (by omega)) ?_
    (try simp only [Option.bind_some, Int.toNat_natCast, List.set_set, e, hr, hs, v1, v2, v3, v4, v5, v6, v7, v8, v9])
    exact ih
theorem markActS_mk (l : List (S33)) (h : l.length ≤ 1048576) : Ev (fun k => laws_markActS.f k l 1) (1 + (((l.map fun _ => (9 : Nat)).sum : Nat) : Int), markAll mkActS (fun _ => 9) 1 l) := markActS_at l h 1 (by decide) (by decide)
theorem heldActS_hd (l : List (S33)) (h : l.length ≤ 1048576) : Ev (fun k => laws_heldActS.f k (markAll mkActS (fun _ => 9) 1 l) 1) (1 + (((l.map fun _ => (9 : Nat)).sum : Nat) : Int)) := by
  have hsum := sum_const 9 l
  have hxl := markAll_length mkActS (fun _ => 9) l 1
  refine held_ev (l := l) mkActS (fun _ => 9) (fun _ => True) 1 _ rfl (fun k c i => laws_heldActS.l0 k (markAll mkActS (fun _ => 9) 1 l) c i) ?_ ?_ (fun _ _ => trivial) (by omega) (by omega)
  · intro k c
    simp only [laws_heldActS.l0, if_neg (Int.lt_irrefl _)]
  · intro c i a hget hlt _ h1 h2 r ih
    have e : wrap64 ((i : Int) + 1) = (i : Int) + 1 := w64 (by omega) (by omega)
    have hr : rd_T33 (markAll mkActS (fun _ => 9) 1 l) (i : Int) = mkActS c a := getD_get i _ hget
    have v1 : wrap64 (c + 1) = c + 1 := w64 (by omega) (by omega)
    have v2 : wrap64 (c + 1 + 1) = c + 1 + 1 := w64 (by omega) (by omega)
    have v3 : wrap64 (c + 1 + 1 + 1) = c + 1 + 1 + 1 := w64 (by omega) (by omega)
    have v4 : wrap64 (c + 1 + 1 + 1 + 1) = c + 1 + 1 + 1 + 1 := w64 (by omega) (by omega)
    have v5 : wrap64 (c + 1 + 1 + 1 + 1 + 1) = c + 1 + 1 + 1 + 1 + 1 := w64 (by omega) (by omega)
    have v6 : wrap64 (c + 1 + 1 + 1 + 1 + 1 + 1) = c + 1 + 1 + 1 + 1 + 1 + 1 := w64 (by omega) (by omega)
    have v7 : wrap64 (c + 1 + 1 + 1 + 1 + 1 + 1 + 1) = c + 1 + 1 + 1 + 1 + 1 + 1 + 1 := w64 (by omega) (by omega)
    have v8 : wrap64 (c + 1 + 1 + 1 + 1 + 1 + 1 + 1 + 1) = c + 1 + 1 + 1 + 1 + 1 + 1 + 1 + 1 := w64 (by omega) (by omega)
    have v9 : wrap64 (c + 1 + 1 + 1 + 1 + 1 + 1 + 1 + 1 + 1) = c + 1 + 1 + 1 + 1 + 1 + 1 + 1 + 1 + 1 := w64 (by omega) (by omega)
    have hc : c + ((9 : Nat) : Int) = c + 1 + 1 + 1 + 1 + 1 + 1 + 1 + 1 + 1 := by omega
    (try dsimp only at ih)
    rw [hc] at ih
    refine ev_succ ?_
    simp only [laws_heldActS.l0, if_pos (show (i : Int) < ((markAll mkActS (fun _ => 9) 1 l).length : Int) by omega), if_pos (show (0 : Int) ≤ (i : Int) by omega), e, hr, mkActS, eq_self, ↓reduceIte, v1, v2, v3, v4, v5, v6, v7, v8, v9]
    refine Ev.bind (mt_ev (c + 1 + 1 + 1) (by omega)) ?_
    (try simp only [eq_self, ↓reduceIte, bne_self_eq_false, Bool.false_eq_true, e, hr, mkActS, v1, v2, v3, v4, v5, v6, v7, v8, v9])
    refine Ev.bind (mt_ev (c + 1 + 1 + 1 + 1) (by omega)) ?_
    (try simp only [eq_self, ↓reduceIte, bne_self_eq_false, Bool.false_eq_true, e, hr, mkActS, v1, v2, v3, v4, v5, v6, v7, v8, v9])
    refine Ev.bind (mt_ev (c + 1 + 1 + 1 + 1 + 1 + 1 + 1) (by omega)) ?_
    (try simp only [eq_self, ↓reduceIte, bne_self_eq_false, Bool.false_eq_true, e, hr, mkActS, v1, v2, v3, v4, v5, v6, v7, v8, v9])
    exact ih
theorem eqIntS_eq (l : List (Int)) (h : (l.length + 0) ≤ 1048576) : Ev (fun k => laws_eqIntS.f k l l) true := by
  have H := eq_list1 (l := l) (L0 := laws_eqIntS.l0) (c := fun b : Int => b) (rd := rd) (fun _ _ _ _ => rfl) getD_get (by omega)
  exact H
noncomputable def mkIntS (c : Int) (_ : Int) : Int := (c)
theorem markIntS_at (l : List (Int)) (h : l.length ≤ 1048576) (c0 : Int) (h0 : 1 ≤ c0) (h0' : c0 ≤ 1099511627776) : Ev (fun k => laws_markIntS.f k l c0) (c0 + (((l.map fun _ => (1 : Nat)).sum : Nat) : Int), markAll mkIntS (fun _ => 1) c0 l) := by
  have hsum := sum_const 1 l
  refine mark_ev mkIntS (fun _ => 1) (fun _ => True) (fun k s i => laws_markIntS.l0 k s.1 s.2 i) ?_ ?_ h (fun _ _ => trivial) c0 h0 (by omega)
  · intro k s
    simp only [laws_markIntS.l0, if_neg (Int.lt_irrefl _)]
  · intro y c i a hget hlt hy _ h1 h2 r ih
    have e : wrap64 ((i : Int) + 1) = (i : Int) + 1 := w64 (by omega) (by omega)
    have hr : rd y (i : Int) = a := getD_get i a hget
    have hs : ∀ v, rd (y.set i v) (i : Int) = v := fun v => getD_get i v (by simp [hlt])
    have v1 : wrap64 (c + 1) = c + 1 := w64 (by omega) (by omega)
    have hc : c + ((1 : Nat) : Int) = c + 1 := by omega
    (try dsimp only at ih)
    rw [hc] at ih
    refine ev_succ ?_
    simp only [laws_markIntS.l0, if_pos (show (i : Int) < (y.length : Int) by omega), if_pos (show (0 : Int) ≤ (i : Int) by omega), Option.bind_some, Int.toNat_natCast, List.set_set, e, hr, hs, v1]
    exact ih
theorem markIntS_mk (l : List (Int)) (h : l.length ≤ 1048576) : Ev (fun k => laws_markIntS.f k l 1) (1 + (((l.map fun _ => (1 : Nat)).sum : Nat) : Int), markAll mkIntS (fun _ => 1) 1 l) := markIntS_at l h 1 (by decide) (by decide)
theorem toIntS_to (l : List (Int)) (h : (l.length + 0) ≤ 1048576) : Ev (fun k => laws_toIntS.f k l) l := by
  have H := to_list1 (l := l) (L0 := laws_toIntS.l0) (z := 0) (rd := rd) (B := 35184372088832) (fun _ _ _ _ => rfl) getD_get (by omega) (by decide)
  exact H
end Go.Proofs.Ytklghegofjigoaa.QFnExactWoven
