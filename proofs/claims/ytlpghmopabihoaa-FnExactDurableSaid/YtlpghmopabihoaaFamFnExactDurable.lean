/-
  Sizes, copies and comparisons of FnExactDurable: what the functions sz.., to.., eq.. of the law answer.
-/
import Derived.Test.YtlpghmopabihoaaOpenFnExactDurable
import Derived.Test.YtlpghmopabihoaaKit
import Derived.Test.YtlpghmopabihoaaQFnExactDurablex1
import Derived.Test.YtlpghmopabihoaaQFnExactDurablex2
import Derived.Test.YtlpghmopabihoaaQFnExactDurablex4
namespace Go.Proofs.Ytlpghmopabihoaa.QFnExactDurable
open Go.RowKit Go.Proofs.YtlpghmopabihoaaW.PrintWords Go.Proofs.Ytlpghmopabihoaa.Opens Go.Proofs.Ytlpghmopabihoaa.Kit
set_option linter.unusedVariables false
set_option linter.unusedSimpArgs false
theorem szWrite_sz (a0_0 : Int) (a0_1 : ByteArray) (h0_1 : a0_1.size ≤ 140737488351232) : Szf (fun k a => laws_szWrite.f a0_0 a0_1 a) (a0_1.size + 0) := by
  have H := (szf_str h0_1 szf_ret)
  exact H
def w163 (x : S163) : Nat := (x.f1.size + 0)
theorem szWriteS_sz (l : List (S163)) (h : (l.length * 24 ≤ 140737488351232 ∧ ∀ y ∈ l, wf163 y)) : Szf (fun k a => laws_szWriteS.f k l a) (l.length + (l.map w163).sum) := by
  have H := szf_list (l := l) (L0 := laws_szWriteS.l0) (step := fun k x s => laws_szWrite.f x.f0 x.f1 s) (rd := rd_T163) (fun _ _ _ _ => rfl) getD_get (by have := h.1; omega) (fun a ha => szWrite_sz a.f0 a.f1 (h.2 a ha).2)
  exact H
theorem toWrite_to (a0_0 : Int) (a0_1 : ByteArray) (h : (a0_1.size + 0) ≤ 1048576) : Ev (fun k => laws_toWrite.f a0_0 a0_1) (a0_0, a0_1) := by
  unfold laws_toWrite.f
  exact (Ev.now _)
def w164 (x : S164) : Nat := (x.f1.size + 0)
def c163 (x : S163) : S164 := ⟨x.f0, x.f1⟩
theorem cw163 (x : S163) : w164 (c163 x) = w163 x := by
  first | rfl | (simp [w164, c163, w163, Function.comp_def])
theorem cws163 (l : List S163) : (l.map c163).length + ((l.map c163).map w164).sum = l.length + (l.map w163).sum := by
  simp only [List.length_map, List.map_map, Function.comp_def, cw163]
theorem toWriteS_to (l : List (S163)) (h : (l.length + (l.map w163).sum) ≤ 1048576) : Ev (fun k => laws_toWriteS.f k l) (l.map c163) := by
  have H := to_list (l := l) (L0 := laws_toWriteS.l0) (z := z164) (conv := c163) (mk := fun b => (⟨b.1, b.2⟩ : S164)) (t := fun x => (x.f0, x.f1)) (step := fun k x => laws_toWrite.f x.f0 x.f1) (rd := rd_T163) (B := 11728124029610) (fun _ _ _ _ => rfl) getD_get (by omega) (by decide) (fun a ha => ⟨toWrite_to a.f0 a.f1 (mem_w (w := w163) h ha), rfl⟩)
  exact H
theorem eqWrite_eq (a0_0 : Int) (a0_1 : ByteArray) (h : (a0_1.size + 0) ≤ 1048576) : Ev (fun k => laws_eqWrite.f a0_0 a0_1 a0_0 a0_1) true := by
  unfold laws_eqWrite.f
  exact (eqf_if (eqf_if eqf_end))
theorem eqWriteS_eq (l : List (S164)) (h : (l.length + (l.map w164).sum) ≤ 1048576) : Ev (fun k => laws_eqWriteS.f k l l) true := by
  have H := eq_list (l := l) (L0 := laws_eqWriteS.l0) (step := fun k x y => laws_eqWrite.f x.f0 x.f1 y.f0 y.f1) (rd := rd_T164) (fun _ _ _ _ => rfl) getD_get (by omega) (fun a ha => eqWrite_eq a.f0 a.f1 (mem_w (w := w164) h ha))
  exact H
noncomputable def mt (c : Int) : ByteArray := mtOf laws_markText.f c
theorem mt_ev (c : Int) (hc : c ≤ 1125899906842624) : Ev (fun k => laws_markText.f k c) (mt c) := mtOf_ev (markText_ex (F := laws_markText.f) (L0 := laws_markText.l0) (fun _ _ => rfl) (fun _ _ _ => rfl) c hc)
noncomputable def mkWriteS (c : Int) (_ : S164) : S164 := (⟨(c), mt (c + 1)⟩ : S164)
theorem markWriteS_at (l : List (S164)) (h : l.length ≤ 1048576) (c0 : Int) (h0 : 1 ≤ c0) (h0' : c0 ≤ 1099511627776) : Ev (fun k => laws_markWriteS.f k l c0) (c0 + (((l.map fun _ => (2 : Nat)).sum : Nat) : Int), markAll mkWriteS (fun _ => 2) c0 l) := by
  have hsum := sum_const 2 l
  refine mark_ev mkWriteS (fun _ => 2) (fun _ => True) (fun k s i => laws_markWriteS.l0 k s.1 s.2 i) ?_ ?_ h (fun _ _ => trivial) c0 h0 (by omega)
  · intro k s
    simp only [laws_markWriteS.l0, if_neg (Int.lt_irrefl _)]
  · intro y c i a hget hlt hy _ h1 h2 r ih
    have e : wrap64 ((i : Int) + 1) = (i : Int) + 1 := w64 (by omega) (by omega)
    have hr : rd_T164 y (i : Int) = a := getD_get i a hget
    have hs : ∀ v, rd_T164 (y.set i v) (i : Int) = v := fun v => getD_get i v (by simp [hlt])
    have v1 : wrap64 (c + 1) = c + 1 := w64 (by omega) (by omega)
    have v2 : wrap64 (c + 1 + 1) = c + 1 + 1 := w64 (by omega) (by omega)
    have hc : c + ((2 : Nat) : Int) = c + 1 + 1 := by omega
    (try dsimp only at ih)
    rw [hc] at ih
    refine ev_succ ?_
    simp only [laws_markWriteS.l0, if_pos (show (i : Int) < (y.length : Int) by omega), if_pos (show (0 : Int) ≤ (i : Int) by omega), Option.bind_some, Int.toNat_natCast, List.set_set, e, hr, hs, v1, v2]
    refine Ev.bind (mt_ev (c + 1) (by omega)) ?_
    (try simp only [Option.bind_some, Int.toNat_natCast, List.set_set, e, hr, hs, v1, v2])
    exact ih
theorem markWriteS_mk (l : List (S164)) (h : l.length ≤ 1048576) : Ev (fun k => laws_markWriteS.f k l 1) (1 + (((l.map fun _ => (2 : Nat)).sum : Nat) : Int), markAll mkWriteS (fun _ => 2) 1 l) := markWriteS_at l h 1 (by decide) (by decide)
theorem eqStep_eq (a0_0 : Int) (a0_1 : Int) (a0_2 : ByteArray) (h : (a0_2.size + 0) ≤ 1048576) : Ev (fun k => laws_eqStep.f a0_0 a0_1 a0_2 a0_0 a0_1 a0_2) true := by
  unfold laws_eqStep.f
  exact (eqf_if (eqf_if (eqf_if eqf_end)))
def w73 (x : S73) : Nat := (x.f2.size + 0)
theorem eqStepS_eq (l : List (S73)) (h : (l.length + (l.map w73).sum) ≤ 1048576) : Ev (fun k => laws_eqStepS.f k l l) true := by
  have H := eq_list (l := l) (L0 := laws_eqStepS.l0) (step := fun k x y => laws_eqStep.f x.f0 x.f1 x.f2 y.f0 y.f1 y.f2) (rd := rd_T73) (fun _ _ _ _ => rfl) getD_get (by omega) (fun a ha => eqStep_eq a.f0 a.f1 a.f2 (mem_w (w := w73) h ha))
  exact H
noncomputable def mkStepS (c : Int) (_ : S73) : S73 := (⟨(c), (c + 1), mt (c + 1 + 1)⟩ : S73)
theorem markStepS_at (l : List (S73)) (h : l.length ≤ 1048576) (c0 : Int) (h0 : 1 ≤ c0) (h0' : c0 ≤ 1099511627776) : Ev (fun k => laws_markStepS.f k l c0) (c0 + (((l.map fun _ => (3 : Nat)).sum : Nat) : Int), markAll mkStepS (fun _ => 3) c0 l) := by
  have hsum := sum_const 3 l
  refine mark_ev mkStepS (fun _ => 3) (fun _ => True) (fun k s i => laws_markStepS.l0 k s.1 s.2 i) ?_ ?_ h (fun _ _ => trivial) c0 h0 (by omega)
  · intro k s
    simp only [laws_markStepS.l0, if_neg (Int.lt_irrefl _)]
  · intro y c i a hget hlt hy _ h1 h2 r ih
    have e : wrap64 ((i : Int) + 1) = (i : Int) + 1 := w64 (by omega) (by omega)
    have hr : rd_T73 y (i : Int) = a := getD_get i a hget
    have hs : ∀ v, rd_T73 (y.set i v) (i : Int) = v := fun v => getD_get i v (by simp [hlt])
    have v1 : wrap64 (c + 1) = c + 1 := w64 (by omega) (by omega)
    have v2 : wrap64 (c + 1 + 1) = c + 1 + 1 := w64 (by omega) (by omega)
    have v3 : wrap64 (c + 1 + 1 + 1) = c + 1 + 1 + 1 := w64 (by omega) (by omega)
    have hc : c + ((3 : Nat) : Int) = c + 1 + 1 + 1 := by omega
    (try dsimp only at ih)
    rw [hc] at ih
    refine ev_succ ?_
    simp only [laws_markStepS.l0, if_pos (show (i : Int) < (y.length : Int) by omega), if_pos (show (0 : Int) ≤ (i : Int) by omega), Option.bind_some, Int.toNat_natCast, List.set_set, e, hr, hs, v1, v2, v3]
    refine Ev.bind (mt_ev (c + 1 + 1) (by omega)) ?_
    (try simp only [Option.bind_some, Int.toNat_natCast, List.set_set, e, hr, hs, v1, v2, v3])
    exact ih
theorem markStepS_mk (l : List (S73)) (h : l.length ≤ 1048576) : Ev (fun k => laws_markStepS.f k l 1) (1 + (((l.map fun _ => (3 : Nat)).sum : Nat) : Int), markAll mkStepS (fun _ => 3) 1 l) := markStepS_at l h 1 (by decide) (by decide)
theorem heldStepS_hd (l : List (S73)) (h : l.length ≤ 1048576) : Ev (fun k => laws_heldStepS.f k (markAll mkStepS (fun _ => 3) 1 l) 1) (1 + (((l.map fun _ => (3 : Nat)).sum : Nat) : Int)) := by
  have hsum := sum_const 3 l
  have hxl := markAll_length mkStepS (fun _ => 3) l 1
  refine held_ev (l := l) mkStepS (fun _ => 3) (fun _ => True) 1 _ rfl (fun k c i => laws_heldStepS.l0 k (markAll mkStepS (fun _ => 3) 1 l) c i) ?_ ?_ (fun _ _ => trivial) (by omega) (by omega)
  · intro k c
    simp only [laws_heldStepS.l0, if_neg (Int.lt_irrefl _)]
  · intro c i a hget hlt _ h1 h2 r ih
    have e : wrap64 ((i : Int) + 1) = (i : Int) + 1 := w64 (by omega) (by omega)
    have hr : rd_T73 (markAll mkStepS (fun _ => 3) 1 l) (i : Int) = mkStepS c a := getD_get i _ hget
    have v1 : wrap64 (c + 1) = c + 1 := w64 (by omega) (by omega)
    have v2 : wrap64 (c + 1 + 1) = c + 1 + 1 := w64 (by omega) (by omega)
    have v3 : wrap64 (c + 1 + 1 + 1) = c + 1 + 1 + 1 := w64 (by omega) (by omega)
    have hc : c + ((3 : Nat) : Int) = c + 1 + 1 + 1 := by omega
    (try dsimp only at ih)
    rw [hc] at ih
    refine ev_succ ?_
    simp only [laws_heldStepS.l0, if_pos (show (i : Int) < ((markAll mkStepS (fun _ => 3) 1 l).length : Int) by omega), if_pos (show (0 : Int) ≤ (i : Int) by omega), e, hr, mkStepS, eq_self, ↓reduceIte, v1, v2, v3]
    refine Ev.bind (mt_ev (c + 1 + 1) (by omega)) ?_
    (try simp only [eq_self, ↓reduceIte, bne_self_eq_false, Bool.false_eq_true, e, hr, mkStepS, v1, v2, v3])
    exact ih
end Go.Proofs.Ytlpghmopabihoaa.QFnExactDurable
