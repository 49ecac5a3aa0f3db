/-
  FnExactSameResult: the pure part: what the law computes is true, whatever the input.
-/
import Derived.Test.YtakelegiamdmaaaFamFnExactSameResult
namespace Go.Proofs.Ytakelegiamdmaaa.Pure
open Go.RowKit Go.Proofs.YtakelegiamdmaaaW.PrintWords Go.Proofs.YtakelegiamdmaaaW.PrintLast Go.Proofs.YtakelegiamdmaaaW.PrintMore Go.Proofs.Ytakelegiamdmaaa.QFnExactSameResult Go.Proofs.Ytakelegiamdmaaa.Kit
set_option linter.unusedVariables false
set_option linter.unusedSimpArgs false
def eqs (a b : ByteArray) : Bool := decide (a.toList = b.toList)
theorem eqs_if {γ : Type} (a b : ByteArray) (x y : γ) : (if a.toList = b.toList then x else y) = if eqs a b = true then x else y := by
  unfold eqs
  simp only [decide_eq_true_eq]
theorem words_ev (xs ys : List ByteArray) (h1 : xs.length ≤ 1048576) : ∃ r, Ev (fun k => spec_l12Words.f k xs ys) r ∧ Ev (fun k => slices_Equal_string_string.f k xs ys) r := by
  unfold spec_l12Words.f slices_Equal_string_string.f
  by_cases hl : (xs.length : Int) = (ys.length : Int)
  · simp only [if_pos hl]
    refine ⟨all2 eqs xs ys, all2_ev eqs (fun k i => spec_l12Words.l0 k xs ys i) (by omega) ?_ ?_, all2_ev eqs (fun k i => slices_Equal_string_string.l0 k xs ys xs.length i) (by omega) ?_ ?_⟩
    · intro k
      simp only [spec_l12Words.l0, if_neg (Int.lt_irrefl _)]
    · intro i a b ha hb hlt
      have e1 : wrap64 ((i : Int) + 1) = (i : Int) + 1 := w64 (by omega) (by omega)
      have hr : rdOf ByteArray.empty xs (i : Int) = a := rdOf_get i a ha
      have hr' : rdOf ByteArray.empty ys (i : Int) = b := rdOf_get i b hb
      refine ⟨fun he r ih => ev_succ ?_, fun he => ev_succ ?_⟩
      all_goals simp only [spec_l12Words.l0, e1, hr, hr', if_pos (show (i : Int) < (xs.length : Int) by omega), if_pos (show (0 : Int) ≤ (i : Int) by omega), if_pos (show (i : Int) < (ys.length : Int) by omega), eqs_if, he, Bool.false_eq_true, if_true, if_false]
      · exact ih
      · exact Ev.now _
    · intro k
      simp only [slices_Equal_string_string.l0, if_neg (Int.lt_irrefl _)]
    · intro i a b ha hb hlt
      have e1 : wrap64 ((i : Int) + 1) = (i : Int) + 1 := w64 (by omega) (by omega)
      have hr : rdOf ByteArray.empty xs (i : Int) = a := rdOf_get i a ha
      have hr' : rdOf ByteArray.empty ys (i : Int) = b := rdOf_get i b hb
      refine ⟨fun he r ih => ev_succ ?_, fun he => ev_succ ?_⟩
      all_goals simp only [slices_Equal_string_string.l0, e1, hr, hr', if_pos (show (i : Int) < (xs.length : Int) by omega), if_pos (show (0 : Int) ≤ (i : Int) by omega), if_pos (show (i : Int) < (ys.length : Int) by omega), eqs_if, he, Bool.false_eq_true, if_true, if_false]
      · exact ih
      · exact Ev.now _
  · simp only [if_neg hl]
    exact ⟨false, Ev.now _, Ev.now _⟩

theorem core (a0 : Int) (a1 : ByteArray) (a2 : Int) (a3 : Bool) (a4 : List ByteArray) (b0 : Int) (b1 : ByteArray) (b2 : Int) (b3 : Bool) (b4 : List ByteArray) (h : a4.length ≤ 1048576) : ∃ r, Ev (fun k => spec_SameResult.f k a0 a1 a2 a3 a4 b0 b1 b2 b3 b4) r ∧ Ev (fun k => impl_SameResult.f k a0 a1 a2 a3 a4 b0 b1 b2 b3 b4) r := by
  obtain ⟨r, h1, h2⟩ := words_ev a4 b4 h
  unfold spec_SameResult.f impl_SameResult.f
  by_cases c0 : a0 = b0
  · by_cases c1 : a1.toList = b1.toList
    · by_cases c2 : a2 = b2
      · by_cases c3 : (a3 == b3) = true
        · simp only [if_pos c0, if_pos c1, if_pos c2, if_pos c3]
          exact ⟨r, Ev.bind h1 (Ev.now _), Ev.bind h2 (Ev.now _)⟩
        · simp only [if_pos c0, if_pos c1, if_pos c2, if_neg c3]
          exact ⟨false, Ev.now _, Ev.now _⟩
      · simp only [if_pos c0, if_pos c1, if_neg c2]
        exact ⟨false, Ev.now _, Ev.now _⟩
    · simp only [if_pos c0, if_neg c1]
      exact ⟨false, Ev.now _, Ev.now _⟩
  · simp only [if_neg c0]
    exact ⟨false, Ev.now _, Ev.now _⟩
theorem FnExactSameResult : Go.Proofs.Ytakelegiamdmaaa.QFnExactSameResult.Stated := by
  intro a0 a1 a2 a3 l4 b0 b1 b2 b3 m4 y0 y1 y2 y4 z0 z1 z2 z4
  unfold laws_FnExactSameResult.f
  refine Ev.rounds (Ev.bind (szResult_sz a0 a1 a2 a3 l4 y1 y4 1048576 (by decide) (by decide)) ?_)
  refine (Classical.em _).elim (fun hc => ev_pos hc (Ev.now _)) (fun hc => ev_neg hc ?_)
  have hW := szv_nonneg hc
  have hb := szv_bounds hc (by decide)
  refine Ev.bind (szResult_sz b0 b1 b2 b3 m4 z1 z4 _ hb.1 hb.2) ?_
  refine (Classical.em _).elim (fun hc => ev_pos hc (Ev.now _)) (fun hc2 => ev_neg hc2 ?_)
  have hW2 := szv_nonneg hc2
  have hto1 := toResult_to a0 a1 a2 a3 l4 (by omega)
  have hto2 := toResult_to b0 b1 b2 b3 m4 (by omega)
  obtain ⟨r, hs1, hs2⟩ := core a0 a1 a2 a3 l4 b0 b1 b2 b3 m4 (by omega)
  refine Ev.bind hto1 ?_
  refine Ev.bind hto2 ?_
  refine Ev.bind hs1 ?_
  refine Ev.bind hto1 ?_
  refine Ev.bind hto2 ?_
  refine Ev.bind hs2 ?_
  refine ev_neg (by simp) ?_
  refine Ev.bind hto1 ?_
  refine Ev.bind (eqResult_eq a0 a1 a2 a3 l4 (by omega)) ?_
  refine ev_pos rfl ?_
  refine Ev.bind hto2 ?_
  refine Ev.bind (eqResult_eq b0 b1 b2 b3 m4 (by omega)) ?_
  exact ev_pos rfl (Ev.now _)
end Go.Proofs.Ytakelegiamdmaaa.Pure
