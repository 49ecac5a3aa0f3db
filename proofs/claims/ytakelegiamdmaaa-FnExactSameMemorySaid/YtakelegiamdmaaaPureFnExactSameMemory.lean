/-
  FnExactSameMemory: the pure part: what the law computes is true, whatever the input.
-/
import Derived.Test.YtakelegiamdmaaaFamFnExactSameMemory
namespace Go.Proofs.Ytakelegiamdmaaa.Pure
open Go.RowKit Go.Proofs.YtakelegiamdmaaaW.PrintWords Go.Proofs.YtakelegiamdmaaaW.PrintLast Go.Proofs.YtakelegiamdmaaaW.PrintMore Go.Proofs.Ytakelegiamdmaaa.PFnExactSameMemory Go.Proofs.Ytakelegiamdmaaa.Kit
set_option linter.unusedVariables false
set_option linter.unusedSimpArgs false

def eqc (a b : S116) : Bool := a.f0 == b.f0 && (a.f1.toList == b.f1.toList && a.f2 == b.f2)
theorem eqc_not (a b : S116) : (!(a.f0 == b.f0) || (!(a.f1.toList == b.f1.toList) || !(a.f2 == b.f2))) = !eqc a b := by
  unfold eqc
  cases (a.f0 == b.f0) <;> cases (a.f1.toList == b.f1.toList) <;> cases (a.f2 == b.f2) <;> rfl
theorem spec_loop (xs ys : List S116) (s t : ByteArray) (hl : xs.length = ys.length) (hb : xs.length ≤ 1048576) : Ev (fun k => spec_SameMemory.l0 k 0 s xs t ys) (all2 eqc xs ys) := by
  refine all2_ev eqc (fun k i => spec_SameMemory.l0 k i s xs t ys) hl ?_ ?_
  · intro k
    simp only [spec_SameMemory.l0, if_neg (Int.lt_irrefl _)]
  · intro i a b ha hb' hlt
    have e1 : wrap64 ((i : Int) + 1) = (i : Int) + 1 := w64 (by omega) (by omega)
    have hr : rd_T116 xs (i : Int) = a := getD_get i a ha
    have hr' : rd_T116 ys (i : Int) = b := getD_get i b hb'
    constructor
    · intro he r ih
      refine ev_succ ?_
      simp only [spec_SameMemory.l0, e1, hr, hr', if_pos (show (i : Int) < (xs.length : Int) by omega), if_pos (show (0 : Int) ≤ (i : Int) by omega), if_pos (show (i : Int) < (ys.length : Int) by omega), eqc_not, he, Bool.not_true, Bool.false_eq_true, if_false]
      exact ih
    · intro he
      refine ev_succ ?_
      simp only [spec_SameMemory.l0, e1, hr, hr', if_pos (show (i : Int) < (xs.length : Int) by omega), if_pos (show (0 : Int) ≤ (i : Int) by omega), if_pos (show (i : Int) < (ys.length : Int) by omega), eqc_not, he, Bool.not_false, if_true]
      exact Ev.now _
theorem impl_loop (xs ys : List S116) (hl : xs.length = ys.length) (hb : xs.length ≤ 1048576) : Ev (fun k => impl_Cell.l0 k xs ys xs.length 0) (all2 eqc xs ys) := by
  refine all2_ev eqc (fun k i => impl_Cell.l0 k xs ys xs.length i) hl ?_ ?_
  · intro k
    simp only [impl_Cell.l0, if_neg (Int.lt_irrefl _)]
  · intro i a b ha hb' hlt
    have e1 : wrap64 ((i : Int) + 1) = (i : Int) + 1 := w64 (by omega) (by omega)
    have hr : rd_T116 xs (i : Int) = a := getD_get i a ha
    have hr' : rd_T116 ys (i : Int) = b := getD_get i b hb'
    constructor
    · intro he r ih
      refine ev_succ ?_
      simp only [impl_Cell.l0, e1, hr, hr', if_pos (show (i : Int) < (xs.length : Int) by omega), if_pos (show (0 : Int) ≤ (i : Int) by omega), if_pos (show (i : Int) < (ys.length : Int) by omega), eqc_not, he, Bool.not_true, Bool.false_eq_true, if_false]
      exact ih
    · intro he
      refine ev_succ ?_
      simp only [impl_Cell.l0, e1, hr, hr', if_pos (show (i : Int) < (xs.length : Int) by omega), if_pos (show (0 : Int) ≤ (i : Int) by omega), if_pos (show (i : Int) < (ys.length : Int) by omega), eqc_not, he, Bool.not_false, if_true]
      exact Ev.now _
theorem core (s t : ByteArray) (xs ys : List S116) (h1 : xs.length ≤ 1048576) : ∃ r, Ev (fun k => spec_SameMemory.f k s xs t ys) r ∧ Ev (fun k => impl_SameMemory.f k s xs t ys) r := by
  unfold spec_SameMemory.f impl_SameMemory.f impl_Cell.f
  by_cases hs : s.toList = t.toList
  · simp only [if_pos hs]
    by_cases hl : (xs.length : Int) = (ys.length : Int)
    · simp only [if_pos hl, bne_eq_false_iff_eq.mpr hl]
      refine ⟨all2 eqc xs ys, ev_succ ?_, Ev.bind (impl_loop xs ys (by omega) h1) (Ev.now _)⟩
      simp only [spec_SameMemory.j0, Bool.false_eq_true, if_false]
      exact spec_loop xs ys s t (by omega) h1
    · simp only [if_neg hl, bne_iff_ne.mpr hl]
      refine ⟨false, ev_succ ?_, Ev.bind (Ev.now _) (Ev.now _)⟩
      simp only [spec_SameMemory.j0, if_true]
      exact Ev.now _
  · simp only [if_neg hs]
    refine ⟨false, ev_succ ?_, Ev.now _⟩
    simp only [spec_SameMemory.j0, if_true]
    exact Ev.now _
theorem FnExactSameMemory : Go.Proofs.Ytakelegiamdmaaa.PFnExactSameMemory.Stated := by
  intro a0 l0 a1 l1 y0 y1 y2 y3
  unfold laws_FnExactSameMemory.f
  refine Ev.rounds (Ev.bind (szMemory_sz a0 l0 y0 y1 1048576 (by decide) (by decide)) ?_)
  refine (Classical.em _).elim (fun hc => ev_pos hc (Ev.now _)) (fun hc => ev_neg hc ?_)
  have hW := szv_nonneg hc
  have hb := szv_bounds hc (by decide)
  refine Ev.bind (szMemory_sz a1 l1 y2 y3 _ hb.1 hb.2) ?_
  refine (Classical.em _).elim (fun hc => ev_pos hc (Ev.now _)) (fun hc2 => ev_neg hc2 ?_)
  have hW2 := szv_nonneg hc2
  have hto1 := toMemory_to a0 l0 (by omega)
  have hto2 := toMemory_to a1 l1 (by omega)
  have hc1 := cws140 l0
  have hc2 := cws140 l1
  obtain ⟨r, hs1, hs2⟩ := core a0 a1 (l0.map c140) (l1.map c140) (by rw [List.length_map]; omega)
  refine Ev.bind hto1 ?_
  refine Ev.bind hto2 ?_
  refine Ev.bind hs1 ?_
  refine Ev.bind hto1 ?_
  refine Ev.bind hto2 ?_
  refine Ev.bind hs2 ?_
  refine ev_neg (by simp) ?_
  refine Ev.bind hto1 ?_
  refine Ev.bind (eqMemory_eq a0 (l0.map c140) (by omega)) ?_
  refine ev_pos rfl ?_
  refine Ev.bind hto2 ?_
  refine Ev.bind (eqMemory_eq a1 (l1.map c140) (by omega)) ?_
  exact ev_pos rfl (Ev.now _)
end Go.Proofs.Ytakelegiamdmaaa.Pure
