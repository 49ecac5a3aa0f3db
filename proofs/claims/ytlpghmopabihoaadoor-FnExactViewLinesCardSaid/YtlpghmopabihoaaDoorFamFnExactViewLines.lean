/-
  Sizes, copies and comparisons of FnExactViewLines: what the functions sz.., to.., eq.. of the law answer.
-/
import Derived.Test.YtlpghmopabihoaaDoorOpenFnExactViewLines
import Derived.Test.YtlpghmopabihoaaDoorKit
import Derived.Test.YtlpghmopabihoaaDoorQFnExactViewLinesx1
import Derived.Test.YtlpghmopabihoaaDoorQFnExactViewLinesx2
import Derived.Test.YtlpghmopabihoaaDoorQFnExactViewLinesx3
import Derived.Test.YtlpghmopabihoaaDoorQFnExactViewLinesx4
namespace Go.Proofs.YtlpghmopabihoaaDoor.QFnExactViewLines
open Go.RowKit Go.Proofs.YtlpghmopabihoaaDoorW.PrintWords Go.Proofs.YtlpghmopabihoaaDoor.Opens Go.Proofs.YtlpghmopabihoaaDoor.Kit
set_option linter.unusedVariables false
set_option linter.unusedSimpArgs false
theorem szItem_sz (a0_0 : ByteArray) (a0_1 : Bool) (a0_2 : ByteArray) (h0_0 : a0_0.size ≤ 140737488351232) (h0_2 : a0_2.size ≤ 140737488351232) : Szf (fun k a => laws_szItem.f a0_0 a0_1 a0_2 a) (a0_0.size + (a0_2.size + 0)) := by
  have H := (szf_str h0_0 (szf_str h0_2 szf_ret))
  exact H
def w80 (x : S80) : Nat := (x.f0.size + (x.f2.size + 0))
theorem szItemS_sz (l : List (S80)) (h : (l.length * 40 ≤ 140737488351232 ∧ ∀ y ∈ l, wf80 y)) : Szf (fun k a => laws_szItemS.f k l a) (l.length + (l.map w80).sum) := by
  have H := szf_list (l := l) (L0 := laws_szItemS.l0) (step := fun k x s => laws_szItem.f x.f0 x.f1 x.f2 s) (rd := rd_T80) (fun _ _ _ _ => rfl) getD_get (by have := h.1; omega) (fun a ha => szItem_sz a.f0 a.f1 a.f2 (h.2 a ha).1 (h.2 a ha).2.2)
  exact H
theorem szView_sz (l0_0 : List (S80)) (h0_0 : (l0_0.length * 40 ≤ 140737488351232 ∧ ∀ y ∈ l0_0, wf80 y)) : Szf (fun k a => laws_szView.f k l0_0 a) ((l0_0.length + (l0_0.map w80).sum) + 0) := by
  have H := (szf_seq (szItemS_sz l0_0 h0_0) szf_ret)
  exact H
theorem toItem_to (a0_0 : ByteArray) (a0_1 : Bool) (a0_2 : ByteArray) (h : (a0_0.size + (a0_2.size + 0)) ≤ 1048576) : Ev (fun k => laws_toItem.f a0_0 a0_1 a0_2) (a0_0, a0_1, a0_2) := by
  unfold laws_toItem.f
  exact (Ev.now _)
def w62 (x : S62) : Nat := (x.f0.size + (x.f2.size + 0))
def c80 (x : S80) : S62 := ⟨x.f0, x.f1, x.f2⟩
theorem cw80 (x : S80) : w62 (c80 x) = w80 x := by
  first | rfl | (simp [w62, c80, w80, Function.comp_def])
theorem cws80 (l : List S80) : (l.map c80).length + ((l.map c80).map w62).sum = l.length + (l.map w80).sum := by
  simp only [List.length_map, List.map_map, Function.comp_def, cw80]
theorem toItemS_to (l : List (S80)) (h : (l.length + (l.map w80).sum) ≤ 1048576) : Ev (fun k => laws_toItemS.f k l) (l.map c80) := by
  have H := to_list (l := l) (L0 := laws_toItemS.l0) (z := z62) (conv := c80) (mk := fun b => (⟨b.1, b.2.1, b.2.2⟩ : S62)) (t := fun x => (x.f0, x.f1, x.f2)) (step := fun k x => laws_toItem.f x.f0 x.f1 x.f2) (rd := rd_T80) (B := 7036874417766) (fun _ _ _ _ => rfl) getD_get (by omega) (by decide) (fun a ha => ⟨toItem_to a.f0 a.f1 a.f2 (mem_w (w := w80) h ha), rfl⟩)
  exact H
theorem toView_to (l0_0 : List (S80)) (h : ((l0_0.length + (l0_0.map w80).sum) + 0) ≤ 1048576) : Ev (fun k => laws_toView.f k l0_0) (l0_0.map c80) := by
  unfold laws_toView.f
  exact (Ev.bind (toItemS_to l0_0 (by omega)) (Ev.now _))
theorem eqStringS_eq (l : List (ByteArray)) (h : (l.length + (l.map ByteArray.size).sum) ≤ 1048576) : Ev (fun k => laws_eqStringS.f k l l) true := by
  have H := eq_list1 (l := l) (L0 := laws_eqStringS.l0) (c := fun b : ByteArray => b.toList) (rd := rdOf ByteArray.empty) (fun _ _ _ _ => rfl) rdOf_get (by omega)
  exact H
theorem eqItem_eq (a0_0 : ByteArray) (a0_1 : Bool) (a0_2 : ByteArray) (h : (a0_0.size + (a0_2.size + 0)) ≤ 1048576) : Ev (fun k => laws_eqItem.f a0_0 a0_1 a0_2 a0_0 a0_1 a0_2) true := by
  unfold laws_eqItem.f
  exact (eqf_if (eqf_bool (eqf_if eqf_end)))
theorem eqItemS_eq (l : List (S62)) (h : (l.length + (l.map w62).sum) ≤ 1048576) : Ev (fun k => laws_eqItemS.f k l l) true := by
  have H := eq_list (l := l) (L0 := laws_eqItemS.l0) (step := fun k x y => laws_eqItem.f x.f0 x.f1 x.f2 y.f0 y.f1 y.f2) (rd := rd_T62) (fun _ _ _ _ => rfl) getD_get (by omega) (fun a ha => eqItem_eq a.f0 a.f1 a.f2 (mem_w (w := w62) h ha))
  exact H
theorem eqView_eq (l0_0 : List (S62)) (h : ((l0_0.length + (l0_0.map w62).sum) + 0) ≤ 1048576) : Ev (fun k => laws_eqView.f k l0_0 l0_0) true := by
  unfold laws_eqView.f
  exact (eqf_call (eqItemS_eq l0_0 (by omega)) eqf_end)
noncomputable def mt (c : Int) : ByteArray := mtOf laws_markText.f c
theorem mt_ev (c : Int) (hc : c ≤ 1125899906842624) : Ev (fun k => laws_markText.f k c) (mt c) := mtOf_ev (markText_ex (F := laws_markText.f) (L0 := laws_markText.l0) (fun _ _ => rfl) (fun _ _ _ => rfl) c hc)
noncomputable def mkItemS (c : Int) (_ : S62) : S62 := (⟨mt (c), decide (Int.tmod (c + 1) 3 = 0), mt (c + 1 + 1)⟩ : S62)
theorem markItemS_at (l : List (S62)) (h : l.length ≤ 1048576) (c0 : Int) (h0 : 1 ≤ c0) (h0' : c0 ≤ 1099511627776) : Ev (fun k => laws_markItemS.f k l c0) (c0 + (((l.map fun _ => (3 : Nat)).sum : Nat) : Int), markAll mkItemS (fun _ => 3) c0 l) := by
  have hsum := sum_const 3 l
  refine mark_ev mkItemS (fun _ => 3) (fun _ => True) (fun k s i => laws_markItemS.l0 k s.1 s.2 i) ?_ ?_ h (fun _ _ => trivial) c0 h0 (by omega)
  · intro k s
    simp only [laws_markItemS.l0, if_neg (Int.lt_irrefl _)]
  · intro y c i a hget hlt hy _ h1 h2 r ih
    have e : wrap64 ((i : Int) + 1) = (i : Int) + 1 := w64 (by omega) (by omega)
    have hr : rd_T62 y (i : Int) = a := getD_get i a hget
    have hs : ∀ v, rd_T62 (y.set i v) (i : Int) = v := fun v => getD_get i v (by simp [hlt])
    have v1 : wrap64 (c + 1) = c + 1 := w64 (by omega) (by omega)
    have v2 : wrap64 (c + 1 + 1) = c + 1 + 1 := w64 (by omega) (by omega)
    have v3 : wrap64 (c + 1 + 1 + 1) = c + 1 + 1 + 1 := w64 (by omega) (by omega)
    have hc : c + ((3 : Nat) : Int) = c + 1 + 1 + 1 := by omega
    (try dsimp only at ih)
    rw [hc] at ih
    refine ev_succ ?_
    simp only [laws_markItemS.l0, if_pos (show (i : Int) < (y.length : Int) by omega), if_pos (show (0 : Int) ≤ (i : Int) by omega), Option.bind_some, Int.toNat_natCast, List.set_set, e, hr, hs, v1, v2, v3]
    refine Ev.bind (mt_ev (c) (by omega)) ?_
    (try simp only [Option.bind_some, Int.toNat_natCast, List.set_set, e, hr, hs, v1, v2, v3])
    refine Ev.bind (mt_ev (c + 1 + 1) (by omega)) ?_
    (try simp only [Option.bind_some, Int.toNat_natCast, List.set_set, e, hr, hs, v1, v2, v3])
    exact ih
theorem markItemS_mk (l : List (S62)) (h : l.length ≤ 1048576) : Ev (fun k => laws_markItemS.f k l 1) (1 + (((l.map fun _ => (3 : Nat)).sum : Nat) : Int), markAll mkItemS (fun _ => 3) 1 l) := markItemS_at l h 1 (by decide) (by decide)
noncomputable def mkStringS (c : Int) (_ : ByteArray) : ByteArray := mt (c)
theorem markStringS_at (l : List (ByteArray)) (h : l.length ≤ 1048576) (c0 : Int) (h0 : 1 ≤ c0) (h0' : c0 ≤ 1099511627776) : Ev (fun k => laws_markStringS.f k l c0) (c0 + (((l.map fun _ => (1 : Nat)).sum : Nat) : Int), markAll mkStringS (fun _ => 1) c0 l) := by
  have hsum := sum_const 1 l
  refine mark_ev mkStringS (fun _ => 1) (fun _ => True) (fun k s i => laws_markStringS.l0 k s.1 s.2 i) ?_ ?_ h (fun _ _ => trivial) c0 h0 (by omega)
  · intro k s
    simp only [laws_markStringS.l0, if_neg (Int.lt_irrefl _)]
  · intro y c i a hget hlt hy _ h1 h2 r ih
    have e : wrap64 ((i : Int) + 1) = (i : Int) + 1 := w64 (by omega) (by omega)
    have hr : rdOf ByteArray.empty y (i : Int) = a := rdOf_get i a hget
    have hs : ∀ v, rdOf ByteArray.empty (y.set i v) (i : Int) = v := fun v => rdOf_get i v (by simp [hlt])
    have v1 : wrap64 (c + 1) = c + 1 := w64 (by omega) (by omega)
    have hc : c + ((1 : Nat) : Int) = c + 1 := by omega
    (try dsimp only at ih)
    rw [hc] at ih
    refine ev_succ ?_
    simp only [laws_markStringS.l0, if_pos (show (i : Int) < (y.length : Int) by omega), if_pos (show (0 : Int) ≤ (i : Int) by omega), Option.bind_some, Int.toNat_natCast, List.set_set, e, hr, hs, v1]
    refine Ev.bind (mt_ev (c) (by omega)) ?_
    (try simp only [Option.bind_some, Int.toNat_natCast, List.set_set, e, hr, hs, v1])
    exact ih
theorem markStringS_mk (l : List (ByteArray)) (h : l.length ≤ 1048576) : Ev (fun k => laws_markStringS.f k l 1) (1 + (((l.map fun _ => (1 : Nat)).sum : Nat) : Int), markAll mkStringS (fun _ => 1) 1 l) := markStringS_at l h 1 (by decide) (by decide)
theorem heldStringS_hd (l : List (ByteArray)) (h : l.length ≤ 1048576) : Ev (fun k => laws_heldStringS.f k (markAll mkStringS (fun _ => 1) 1 l) 1) (1 + (((l.map fun _ => (1 : Nat)).sum : Nat) : Int)) := by
  have hsum := sum_const 1 l
  have hxl := markAll_length mkStringS (fun _ => 1) l 1
  refine held_ev (l := l) mkStringS (fun _ => 1) (fun _ => True) 1 _ rfl (fun k c i => laws_heldStringS.l0 k (markAll mkStringS (fun _ => 1) 1 l) c i) ?_ ?_ (fun _ _ => trivial) (by omega) (by omega)
  · intro k c
    simp only [laws_heldStringS.l0, if_neg (Int.lt_irrefl _)]
  · intro c i a hget hlt _ h1 h2 r ih
    have e : wrap64 ((i : Int) + 1) = (i : Int) + 1 := w64 (by omega) (by omega)
    have hr : rdOf ByteArray.empty (markAll mkStringS (fun _ => 1) 1 l) (i : Int) = mkStringS c a := rdOf_get i _ hget
    have v1 : wrap64 (c + 1) = c + 1 := w64 (by omega) (by omega)
    have hc : c + ((1 : Nat) : Int) = c + 1 := by omega
    (try dsimp only at ih)
    rw [hc] at ih
    refine ev_succ ?_
    simp only [laws_heldStringS.l0, if_pos (show (i : Int) < ((markAll mkStringS (fun _ => 1) 1 l).length : Int) by omega), if_pos (show (0 : Int) ≤ (i : Int) by omega), e, hr, mkStringS, eq_self, ↓reduceIte, v1]
    refine Ev.bind (mt_ev (c) (by omega)) ?_
    (try simp only [eq_self, ↓reduceIte, bne_self_eq_false, Bool.false_eq_true, e, hr, mkStringS, v1])
    exact ih
end Go.Proofs.YtlpghmopabihoaaDoor.QFnExactViewLines
