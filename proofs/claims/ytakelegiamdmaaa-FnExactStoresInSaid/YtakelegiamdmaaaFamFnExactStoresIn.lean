/-
  Sizes, copies and comparisons of FnExactStoresIn: what the functions sz.., to.., eq.. of the law answer.
-/
import Derived.Test.YtakelegiamdmaaaOpenFnExactStoresIn
import Derived.Test.YtakelegiamdmaaaKit
import Derived.Test.YtakelegiamdmaaaPFnExactStoresInx1
import Derived.Test.YtakelegiamdmaaaPFnExactStoresInx2
import Derived.Test.YtakelegiamdmaaaPFnExactStoresInx3
namespace Go.Proofs.Ytakelegiamdmaaa.PFnExactStoresIn
open Go.RowKit Go.Proofs.YtakelegiamdmaaaW.PrintWords Go.Proofs.Ytakelegiamdmaaa.Opens Go.Proofs.Ytakelegiamdmaaa.Kit
set_option linter.unusedVariables false
set_option linter.unusedSimpArgs false
theorem szStep_sz (a0_0 : Int) (a0_1 : Int) (a0_2 : ByteArray) (h0_2 : a0_2.size ≤ 140737488351232) : Szf (fun k a => laws_szStep.f a0_0 a0_1 a0_2 a) (a0_2.size + 0) := by
  have H := (szf_str h0_2 szf_ret)
  exact H
def w107 (x : S107) : Nat := (x.f2.size + 0)
theorem szStepS_sz (l : List (S107)) (h : (l.length * 32 ≤ 140737488351232 ∧ ∀ y ∈ l, wf107 y)) : Szf (fun k a => laws_szStepS.f k l a) (l.length + (l.map w107).sum) := by
  have H := szf_list (l := l) (L0 := laws_szStepS.l0) (step := fun k x s => laws_szStep.f x.f0 x.f1 x.f2 s) (rd := rd_T107) (fun _ _ _ _ => rfl) getD_get (by have := h.1; omega) (fun a ha => szStep_sz a.f0 a.f1 a.f2 (h.2 a ha).2.2)
  exact H
theorem toStep_to (a0_0 : Int) (a0_1 : Int) (a0_2 : ByteArray) (h : (a0_2.size + 0) ≤ 1048576) : Ev (fun k => laws_toStep.f a0_0 a0_1 a0_2) (a0_0, a0_1, a0_2) := by
  unfold laws_toStep.f
  exact (Ev.now _)
def w108 (x : S108) : Nat := (x.f2.size + 0)
def c107 (x : S107) : S108 := ⟨x.f0, x.f1, x.f2⟩
theorem cw107 (x : S107) : w108 (c107 x) = w107 x := by
  first | rfl | (simp [w108, c107, w107, Function.comp_def])
theorem cws107 (l : List S107) : (l.map c107).length + ((l.map c107).map w108).sum = l.length + (l.map w107).sum := by
  simp only [List.length_map, List.map_map, Function.comp_def, cw107]
theorem toStepS_to (l : List (S107)) (h : (l.length + (l.map w107).sum) ≤ 1048576) : Ev (fun k => laws_toStepS.f k l) (l.map c107) := by
  have H := to_list (l := l) (L0 := laws_toStepS.l0) (z := z108) (conv := c107) (mk := fun b => (⟨b.1, b.2.1, b.2.2⟩ : S108)) (t := fun x => (x.f0, x.f1, x.f2)) (step := fun k x => laws_toStep.f x.f0 x.f1 x.f2) (rd := rd_T107) (B := 8796093022208) (fun _ _ _ _ => rfl) getD_get (by omega) (by decide) (fun a ha => ⟨toStep_to a.f0 a.f1 a.f2 (mem_w (w := w107) h ha), rfl⟩)
  exact H
theorem eqStep_eq (a0_0 : Int) (a0_1 : Int) (a0_2 : ByteArray) (h : (a0_2.size + 0) ≤ 1048576) : Ev (fun k => laws_eqStep.f a0_0 a0_1 a0_2 a0_0 a0_1 a0_2) true := by
  unfold laws_eqStep.f
  exact (eqf_if (eqf_if (eqf_if eqf_end)))
theorem eqStepS_eq (l : List (S108)) (h : (l.length + (l.map w108).sum) ≤ 1048576) : Ev (fun k => laws_eqStepS.f k l l) true := by
  have H := eq_list (l := l) (L0 := laws_eqStepS.l0) (step := fun k x y => laws_eqStep.f x.f0 x.f1 x.f2 y.f0 y.f1 y.f2) (rd := rd_T108) (fun _ _ _ _ => rfl) getD_get (by omega) (fun a ha => eqStep_eq a.f0 a.f1 a.f2 (mem_w (w := w108) h ha))
  exact H
theorem eqWrite_eq (a0_0 : Int) (a0_1 : ByteArray) (h : (a0_1.size + 0) ≤ 1048576) : Ev (fun k => laws_eqWrite.f a0_0 a0_1 a0_0 a0_1) true := by
  unfold laws_eqWrite.f
  exact (eqf_if (eqf_if eqf_end))
def w126 (x : S126) : Nat := (x.f1.size + 0)
theorem eqWriteS_eq (l : List (S126)) (h : (l.length + (l.map w126).sum) ≤ 1048576) : Ev (fun k => laws_eqWriteS.f k l l) true := by
  have H := eq_list (l := l) (L0 := laws_eqWriteS.l0) (step := fun k x y => laws_eqWrite.f x.f0 x.f1 y.f0 y.f1) (rd := rd_T126) (fun _ _ _ _ => rfl) getD_get (by omega) (fun a ha => eqWrite_eq a.f0 a.f1 (mem_w (w := w126) h ha))
  exact H
noncomputable def mt (c : Int) : ByteArray := mtOf laws_markText.f c
theorem mt_ev (c : Int) (hc : c ≤ 1125899906842624) : Ev (fun k => laws_markText.f k c) (mt c) := mtOf_ev (markText_ex (F := laws_markText.f) (L0 := laws_markText.l0) (fun _ _ => rfl) (fun _ _ _ => rfl) c hc)
noncomputable def mkStepS (c : Int) (_ : S108) : S108 := (⟨(c), (c + 1), mt (c + 1 + 1)⟩ : S108)
theorem markStepS_mk (l : List (S108)) (h : l.length ≤ 1048576) : Ev (fun k => laws_markStepS.f k l 1) (1 + (((l.map fun _ => (3 : Nat)).sum : Nat) : Int), markAll mkStepS (fun _ => 3) 1 l) := by
  have hsum := sum_const 3 l
  refine mark_ev mkStepS (fun _ => 3) (fun _ => True) (fun k s i => laws_markStepS.l0 k s.1 s.2 i) ?_ ?_ h (fun _ _ => trivial) 1 (by omega) (by omega)
  · intro k s
    simp only [laws_markStepS.l0, if_neg (Int.lt_irrefl _)]
  · intro y c i a hget hlt hy _ h1 h2 r ih
    have e : wrap64 ((i : Int) + 1) = (i : Int) + 1 := w64 (by omega) (by omega)
    have hr : rd_T108 y (i : Int) = a := getD_get i a hget
    have hs : ∀ v, rd_T108 (y.set i v) (i : Int) = v := fun v => getD_get i v (by simp [hlt])
    have v1 : wrap64 (c + 1) = c + 1 := w64 (by omega) (by omega)
    have v2 : wrap64 (c + 1 + 1) = c + 1 + 1 := w64 (by omega) (by omega)
    have v3 : wrap64 (c + 1 + 1 + 1) = c + 1 + 1 + 1 := w64 (by omega) (by omega)
    have hc : c + ((3 : Nat) : Int) = c + 1 + 1 + 1 := by omega
    (try dsimp only at ih)
    rw [hc] at ih
    refine ev_succ ?_
    simp only [laws_markStepS.l0, if_pos (show (i : Int) < (y.length : Int) by omega), if_pos (show (0 : Int) ≤ (i : Int) by omega), Option.bind_some, Int.toNat_natCast, List.set_set, e, hr, hs, v1, v2, v3]
    refine Ev.bind (mt_ev (c + 1 + 1) (by omega)) ?_
    (try simp only [Option.bind_some, Int.toNat_natCast, List.set_set, e, hr, hs, v1, v2, v3])
    exact ih
noncomputable def mkWriteS (c : Int) (_ : S126) : S126 := (⟨(c), mt (c + 1)⟩ : S126)
theorem markWriteS_mk (l : List (S126)) (h : l.length ≤ 1048576) : Ev (fun k => laws_markWriteS.f k l 1) (1 + (((l.map fun _ => (2 : Nat)).sum : Nat) : Int), markAll mkWriteS (fun _ => 2) 1 l) := by
  have hsum := sum_const 2 l
  refine mark_ev mkWriteS (fun _ => 2) (fun _ => True) (fun k s i => laws_markWriteS.l0 k s.1 s.2 i) ?_ ?_ h (fun _ _ => trivial) 1 (by omega) (by omega)
  · intro k s
    simp only [laws_markWriteS.l0, if_neg (Int.lt_irrefl _)]
  · intro y c i a hget hlt hy _ h1 h2 r ih
    have e : wrap64 ((i : Int) + 1) = (i : Int) + 1 := w64 (by omega) (by omega)
    have hr : rd_T126 y (i : Int) = a := getD_get i a hget
    have hs : ∀ v, rd_T126 (y.set i v) (i : Int) = v := fun v => getD_get i v (by simp [hlt])
    have v1 : wrap64 (c + 1) = c + 1 := w64 (by omega) (by omega)
    have v2 : wrap64 (c + 1 + 1) = c + 1 + 1 := w64 (by omega) (by omega)
    have hc : c + ((2 : Nat) : Int) = c + 1 + 1 := by omega
    (try dsimp only at ih)
    rw [hc] at ih
    refine ev_succ ?_
    simp only [laws_markWriteS.l0, if_pos (show (i : Int) < (y.length : Int) by omega), if_pos (show (0 : Int) ≤ (i : Int) by omega), Option.bind_some, Int.toNat_natCast, List.set_set, e, hr, hs, v1, v2]
    refine Ev.bind (mt_ev (c + 1) (by omega)) ?_
    (try simp only [Option.bind_some, Int.toNat_natCast, List.set_set, e, hr, hs, v1, v2])
    exact ih
theorem heldWriteS_hd (l : List (S126)) (h : l.length ≤ 1048576) : Ev (fun k => laws_heldWriteS.f k (markAll mkWriteS (fun _ => 2) 1 l) 1) (1 + (((l.map fun _ => (2 : Nat)).sum : Nat) : Int)) := by
  have hsum := sum_const 2 l
  have hxl := markAll_length mkWriteS (fun _ => 2) l 1
  refine held_ev (l := l) mkWriteS (fun _ => 2) (fun _ => True) 1 _ rfl (fun k c i => laws_heldWriteS.l0 k (markAll mkWriteS (fun _ => 2) 1 l) c i) ?_ ?_ (fun _ _ => trivial) (by omega) (by omega)
  · intro k c
    simp only [laws_heldWriteS.l0, if_neg (Int.lt_irrefl _)]
  · intro c i a hget hlt _ h1 h2 r ih
    have e : wrap64 ((i : Int) + 1) = (i : Int) + 1 := w64 (by omega) (by omega)
    have hr : rd_T126 (markAll mkWriteS (fun _ => 2) 1 l) (i : Int) = mkWriteS c a := getD_get i _ hget
    have v1 : wrap64 (c + 1) = c + 1 := w64 (by omega) (by omega)
    have v2 : wrap64 (c + 1 + 1) = c + 1 + 1 := w64 (by omega) (by omega)
    have hc : c + ((2 : Nat) : Int) = c + 1 + 1 := by omega
    (try dsimp only at ih)
    rw [hc] at ih
    refine ev_succ ?_
    simp only [laws_heldWriteS.l0, if_pos (show (i : Int) < ((markAll mkWriteS (fun _ => 2) 1 l).length : Int) by omega), if_pos (show (0 : Int) ≤ (i : Int) by omega), e, hr, mkWriteS, eq_self, ↓reduceIte, v1, v2]
    refine Ev.bind (mt_ev (c + 1) (by omega)) ?_
    (try simp only [eq_self, ↓reduceIte, bne_self_eq_false, Bool.false_eq_true, e, hr, mkWriteS, v1, v2])
    exact ih
end Go.Proofs.Ytakelegiamdmaaa.PFnExactStoresIn
