/-
  Sizes, copies and comparisons of FnExactFallenMemory: what the functions sz.., to.., eq.. of the law answer.
-/
import Derived.Test.YtnmkcognggeioaaOpenFnExactFallenMemory
import Derived.Test.YtnmkcognggeioaaVKit
import Derived.Test.YtnmkcognggeioaaQFnExactFallenMemoryx1
import Derived.Test.YtnmkcognggeioaaQFnExactFallenMemoryx3
import Derived.Test.YtnmkcognggeioaaQFnExactFallenMemoryx4
import Derived.Test.YtnmkcognggeioaaQFnExactFallenMemoryx6
import Derived.Test.YtnmkcognggeioaaQFnExactFallenMemoryx7
namespace Go.Proofs.Ytnmkcognggeioaa.QFnExactFallenMemory
open Go.RowKit Go.Proofs.YtnmkcognggeioaaW.PrintWords Go.Proofs.Ytnmkcognggeioaa.Opens Go.Proofs.Ytnmkcognggeioaa.Kit
set_option linter.unusedVariables false
set_option linter.unusedSimpArgs false
theorem szCell_sz (a0_0 : Int) (a0_1 : ByteArray) (a0_2 : Bool) (h0_1 : a0_1.size ≤ 140737488351232) : Szf (fun k a => laws_szCell.f a0_0 a0_1 a0_2 a) (a0_1.size + 0) := by
  have H := (szf_str h0_1 szf_ret)
  exact H
def w63 (x : S63) : Nat := (x.f1.size + 0)
theorem szCellS_sz (l : List (S63)) (h : (l.length * 32 ≤ 140737488351232 ∧ ∀ y ∈ l, wf63 y)) : Szf (fun k a => laws_szCellS.f k l a) (l.length + (l.map w63).sum) := by
  have H := szf_list (l := l) (L0 := laws_szCellS.l0) (step := fun k x s => laws_szCell.f x.f0 x.f1 x.f2 s) (rd := rd_T63) (fun _ _ _ _ => rfl) getD_get (by have := h.1; omega) (fun a ha => szCell_sz a.f0 a.f1 a.f2 (h.2 a ha).2.1)
  exact H
theorem szMemory_sz (a0_0 : ByteArray) (l0_1 : List (S63)) (h0_0 : a0_0.size ≤ 140737488351232) (h0_1 : (l0_1.length * 32 ≤ 140737488351232 ∧ ∀ y ∈ l0_1, wf63 y)) : Szf (fun k a => laws_szMemory.f k a0_0 l0_1 a) (a0_0.size + ((l0_1.length + (l0_1.map w63).sum) + 0)) := by
  have H := (szf_str h0_0 (szf_seq (szCellS_sz l0_1 h0_1) szf_ret))
  exact H
theorem toCell_to (a0_0 : Int) (a0_1 : ByteArray) (a0_2 : Bool) (h : (a0_1.size + 0) ≤ 1048576) : Ev (fun k => laws_toCell.f a0_0 a0_1 a0_2) (a0_0, a0_1, a0_2) := by
  unfold laws_toCell.f
  exact (Ev.now _)
def w49 (x : S49) : Nat := (x.f1.size + 0)
def c63 (x : S63) : S49 := ⟨x.f0, x.f1, x.f2⟩
theorem cw63 (x : S63) : w49 (c63 x) = w63 x := by
  first | rfl | (simp [w49, c63, w63, Function.comp_def])
theorem cws63 (l : List S63) : (l.map c63).length + ((l.map c63).map w49).sum = l.length + (l.map w63).sum := by
  simp only [List.length_map, List.map_map, Function.comp_def, cw63]
theorem toCellS_to (l : List (S63)) (h : (l.length + (l.map w63).sum) ≤ 1048576) : Ev (fun k => laws_toCellS.f k l) (l.map c63) := by
  have H := to_list (l := l) (L0 := laws_toCellS.l0) (z := z49) (conv := c63) (mk := fun b => (⟨b.1, b.2.1, b.2.2⟩ : S49)) (t := fun x => (x.f0, x.f1, x.f2)) (step := fun k x => laws_toCell.f x.f0 x.f1 x.f2) (rd := rd_T63) (B := 8796093022208) (fun _ _ _ _ => rfl) getD_get (by omega) (by decide) (fun a ha => ⟨toCell_to a.f0 a.f1 a.f2 (mem_w (w := w63) h ha), rfl⟩)
  exact H
theorem toMemory_to (a0_0 : ByteArray) (l0_1 : List (S63)) (h : (a0_0.size + ((l0_1.length + (l0_1.map w63).sum) + 0)) ≤ 1048576) : Ev (fun k => laws_toMemory.f k a0_0 l0_1) (a0_0, l0_1.map c63) := by
  unfold laws_toMemory.f
  exact (Ev.bind (toCellS_to l0_1 (by omega)) (Ev.now _))
theorem eqCell_eq (a0_0 : Int) (a0_1 : ByteArray) (a0_2 : Bool) (h : (a0_1.size + 0) ≤ 1048576) : Ev (fun k => laws_eqCell.f a0_0 a0_1 a0_2 a0_0 a0_1 a0_2) true := by
  unfold laws_eqCell.f
  exact (eqf_if (eqf_if (eqf_bool eqf_end)))
theorem eqCellS_eq (l : List (S49)) (h : (l.length + (l.map w49).sum) ≤ 1048576) : Ev (fun k => laws_eqCellS.f k l l) true := by
  have H := eq_list (l := l) (L0 := laws_eqCellS.l0) (step := fun k x y => laws_eqCell.f x.f0 x.f1 x.f2 y.f0 y.f1 y.f2) (rd := rd_T49) (fun _ _ _ _ => rfl) getD_get (by omega) (fun a ha => eqCell_eq a.f0 a.f1 a.f2 (mem_w (w := w49) h ha))
  exact H
theorem eqMemory_eq (a0_0 : ByteArray) (l0_1 : List (S49)) (h : (a0_0.size + ((l0_1.length + (l0_1.map w49).sum) + 0)) ≤ 1048576) : Ev (fun k => laws_eqMemory.f k a0_0 l0_1 a0_0 l0_1) true := by
  unfold laws_eqMemory.f
  exact (eqf_if (eqf_call (eqCellS_eq l0_1 (by omega)) eqf_end))
noncomputable def mt (c : Int) : ByteArray := mtOf laws_markText.f c
theorem mt_ev (c : Int) (hc : c ≤ 1125899906842624) : Ev (fun k => laws_markText.f k c) (mt c) := mtOf_ev (markText_ex (F := laws_markText.f) (L0 := laws_markText.l0) (fun _ _ => rfl) (fun _ _ _ => rfl) c hc)
noncomputable def mkCellS (c : Int) (_ : S49) : S49 := (⟨(c), mt (c + 1), decide (Int.tmod (c + 1 + 1) 3 = 0)⟩ : S49)
theorem markCellS_at (l : List (S49)) (h : l.length ≤ 1048576) (c0 : Int) (h0 : 1 ≤ c0) (h0' : c0 ≤ 1099511627776) : Ev (fun k => laws_markCellS.f k l c0) (c0 + (((l.map fun _ => (3 : Nat)).sum : Nat) : Int), markAll mkCellS (fun _ => 3) c0 l) := by
  have hsum := sum_const 3 l
  refine mark_ev mkCellS (fun _ => 3) (fun _ => True) (fun k s i => laws_markCellS.l0 k s.1 s.2 i) ?_ ?_ h (fun _ _ => trivial) c0 h0 (by omega)
  · intro k s
    simp only [laws_markCellS.l0, if_neg (Int.lt_irrefl _)]
  · intro y c i a hget hlt hy _ h1 h2 r ih
    have e : wrap64 ((i : Int) + 1) = (i : Int) + 1 := w64 (by omega) (by omega)
    have hr : rd_T49 y (i : Int) = a := getD_get i a hget
    have hs : ∀ v, rd_T49 (y.set i v) (i : Int) = v := fun v => getD_get i v (by simp [hlt])
    have v1 : wrap64 (c + 1) = c + 1 := w64 (by omega) (by omega)
    have v2 : wrap64 (c + 1 + 1) = c + 1 + 1 := w64 (by omega) (by omega)
    have v3 : wrap64 (c + 1 + 1 + 1) = c + 1 + 1 + 1 := w64 (by omega) (by omega)
    have hc : c + ((3 : Nat) : Int) = c + 1 + 1 + 1 := by omega
    (try dsimp only at ih)
    rw [hc] at ih
    refine ev_succ ?_
    simp only [laws_markCellS.l0, if_pos (show (i : Int) < (y.length : Int) by omega), if_pos (show (0 : Int) ≤ (i : Int) by omega), Option.bind_some, Int.toNat_natCast, List.set_set, e, hr, hs, v1, v2, v3]
    refine Ev.bind (mt_ev (c + 1) (by omega)) ?_
    (try simp only [Option.bind_some, Int.toNat_natCast, List.set_set, e, hr, hs, v1, v2, v3])
    exact ih
theorem markCellS_mk (l : List (S49)) (h : l.length ≤ 1048576) : Ev (fun k => laws_markCellS.f k l 1) (1 + (((l.map fun _ => (3 : Nat)).sum : Nat) : Int), markAll mkCellS (fun _ => 3) 1 l) := markCellS_at l h 1 (by decide) (by decide)
theorem heldCellS_hd (l : List (S49)) (h : l.length ≤ 1048576) : Ev (fun k => laws_heldCellS.f k (markAll mkCellS (fun _ => 3) 1 l) 1) (1 + (((l.map fun _ => (3 : Nat)).sum : Nat) : Int)) := by
  have hsum := sum_const 3 l
  have hxl := markAll_length mkCellS (fun _ => 3) l 1
  refine held_ev (l := l) mkCellS (fun _ => 3) (fun _ => True) 1 _ rfl (fun k c i => laws_heldCellS.l0 k (markAll mkCellS (fun _ => 3) 1 l) c i) ?_ ?_ (fun _ _ => trivial) (by omega) (by omega)
  · intro k c
    simp only [laws_heldCellS.l0, if_neg (Int.lt_irrefl _)]
  · intro c i a hget hlt _ h1 h2 r ih
    have e : wrap64 ((i : Int) + 1) = (i : Int) + 1 := w64 (by omega) (by omega)
    have hr : rd_T49 (markAll mkCellS (fun _ => 3) 1 l) (i : Int) = mkCellS c a := getD_get i _ hget
    have v1 : wrap64 (c + 1) = c + 1 := w64 (by omega) (by omega)
    have v2 : wrap64 (c + 1 + 1) = c + 1 + 1 := w64 (by omega) (by omega)
    have v3 : wrap64 (c + 1 + 1 + 1) = c + 1 + 1 + 1 := w64 (by omega) (by omega)
    have hc : c + ((3 : Nat) : Int) = c + 1 + 1 + 1 := by omega
    (try dsimp only at ih)
    rw [hc] at ih
    refine ev_succ ?_
    simp only [laws_heldCellS.l0, if_pos (show (i : Int) < ((markAll mkCellS (fun _ => 3) 1 l).length : Int) by omega), if_pos (show (0 : Int) ≤ (i : Int) by omega), e, hr, mkCellS, eq_self, ↓reduceIte, v1, v2, v3]
    refine Ev.bind (mt_ev (c + 1) (by omega)) ?_
    (try simp only [eq_self, ↓reduceIte, bne_self_eq_false, Bool.false_eq_true, e, hr, mkCellS, v1, v2, v3])
    (try simp only [show ∀ x : Int, (decide (x = 0) != (x == 0)) = false from fun x => by by_cases h_ : x = 0 <;> simp [h_], Bool.false_eq_true, ↓reduceIte])
    exact ih
end Go.Proofs.Ytnmkcognggeioaa.QFnExactFallenMemory
