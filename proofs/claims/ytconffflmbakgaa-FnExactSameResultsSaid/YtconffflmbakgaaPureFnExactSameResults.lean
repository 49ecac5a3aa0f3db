/-
  FnExactSameResults: the pure part: what the law computes is true, whatever the input.
-/
import Derived.Test.YtconffflmbakgaaFamFnExactSameResults
namespace Go.Proofs.Ytconffflmbakgaa.Pure
open Go.RowKit Go.Proofs.YtconffflmbakgaaW.PrintWords Go.Proofs.YtconffflmbakgaaW.PrintLast Go.Proofs.YtconffflmbakgaaW.PrintMore Go.Proofs.Ytconffflmbakgaa.QFnExactSameResults Go.Proofs.Ytconffflmbakgaa.Kit
set_option linter.unusedVariables false
set_option linter.unusedSimpArgs false
def eqs (a b : ByteArray) : Bool := decide (a.toList = b.toList)
theorem eqs_if {γ : Type} (a b : ByteArray) (x y : γ) : (if a.toList = b.toList then x else y) = if eqs a b = true then x else y := by
  unfold eqs
  simp only [decide_eq_true_eq]
theorem all2_len {α : Type} (e : α → α → Bool) : ∀ xs ys : List α, xs.length ≠ ys.length → all2 e xs ys = false
  | [], [], h => absurd rfl h
  | [], _ :: _, _ => rfl
  | _ :: _, [], _ => rfl
  | a :: x, b :: y, h => by
    simp only [all2, all2_len e x y (fun e => h (by simp [e])), Bool.and_false]
theorem words_ev (xs ys : List ByteArray) (h1 : xs.length ≤ 1048576) : Ev (fun k => spec_l12Words.f k xs ys) (all2 eqs xs ys) ∧ Ev (fun k => slices_Equal_string_string.f k xs ys) (all2 eqs xs ys) := by
  unfold spec_l12Words.f slices_Equal_string_string.f
  by_cases hl : (xs.length : Int) = (ys.length : Int)
  · simp only [if_pos hl]
    refine ⟨all2_ev eqs (fun k i => spec_l12Words.l0 k xs ys i) (by omega) ?_ ?_, all2_ev eqs (fun k i => slices_Equal_string_string.l0 k xs ys xs.length i) (by omega) ?_ ?_⟩
    · intro k
      simp only [spec_l12Words.l0, if_neg (Int.lt_irrefl _)]
    · intro i a b ha hb hlt
      have e1 : wrap64 ((i : Int) + 1) = (i : Int) + 1 := w64 (by omega) (by omega)
      have hr : rdOf ByteArray.empty xs (i : Int) = a := rdOf_get i a ha
      have hr' : rdOf ByteArray.empty ys (i : Int) = b := rdOf_get i b hb
      refine ⟨fun he r ih => ev_succ ?_, fun he => ev_succ ?_⟩
      all_goals simp only [spec_l12Words.l0, e1, hr, hr', if_pos (show (i : Int) < (xs.length : Int) by omega), if_pos (show (0 : Int) ≤ (i : Int) by omega), if_pos (show (i : Int) < (ys.length : Int) by omega), eqs_if, he, Bool.false_eq_true, if_true, if_false]
      · exact ih
      · exact Ev.now _
    · intro k
      simp only [slices_Equal_string_string.l0, if_neg (Int.lt_irrefl _)]
    · intro i a b ha hb hlt
      have e1 : wrap64 ((i : Int) + 1) = (i : Int) + 1 := w64 (by omega) (by omega)
      have hr : rdOf ByteArray.empty xs (i : Int) = a := rdOf_get i a ha
      have hr' : rdOf ByteArray.empty ys (i : Int) = b := rdOf_get i b hb
      refine ⟨fun he r ih => ev_succ ?_, fun he => ev_succ ?_⟩
      all_goals simp only [slices_Equal_string_string.l0, e1, hr, hr', if_pos (show (i : Int) < (xs.length : Int) by omega), if_pos (show (0 : Int) ≤ (i : Int) by omega), if_pos (show (i : Int) < (ys.length : Int) by omega), eqs_if, he, Bool.false_eq_true, if_true, if_false]
      · exact ih
      · exact Ev.now _
  · simp only [if_neg hl]
    rw [all2_len eqs xs ys (by omega)]
    exact ⟨Ev.now _, Ev.now _⟩
def sameR (a b : S102) : Bool := decide (a.f0 = b.f0) && (eqs a.f1 b.f1 && (decide (a.f2 = b.f2) && ((a.f3 == b.f3) && all2 eqs a.f4 b.f4)))
theorem one_ev (a b : S102) (h : a.f4.length ≤ 1048576) : Ev (fun k => spec_SameResult.f k a.f0 a.f1 a.f2 a.f3 a.f4 b.f0 b.f1 b.f2 b.f3 b.f4) (sameR a b) ∧ Ev (fun k => impl_SameResult.f k a.f0 a.f1 a.f2 a.f3 a.f4 b.f0 b.f1 b.f2 b.f3 b.f4) (sameR a b) := by
  obtain ⟨h1, h2⟩ := words_ev a.f4 b.f4 h
  unfold spec_SameResult.f impl_SameResult.f sameR
  by_cases c0 : a.f0 = b.f0
  · by_cases c1 : a.f1.toList = b.f1.toList
    · have c1' : eqs a.f1 b.f1 = true := decide_eq_true c1
      by_cases c2 : a.f2 = b.f2
      · by_cases c3 : (a.f3 == b.f3) = true
        · simp only [if_pos c0, if_pos c1, if_pos c2, if_pos c3, decide_eq_true c0, decide_eq_true c2, c1', c3, Bool.true_and]
          exact ⟨Ev.bind h1 (Ev.now _), Ev.bind h2 (Ev.now _)⟩
        · simp only [if_pos c0, if_pos c1, if_pos c2, if_neg c3, Bool.eq_false_iff.mpr c3, Bool.false_and, Bool.and_false]
          exact ⟨Ev.now _, Ev.now _⟩
      · simp only [if_pos c0, if_pos c1, if_neg c2, decide_eq_false c2, Bool.false_and, Bool.and_false]
        exact ⟨Ev.now _, Ev.now _⟩
    · have c1' : eqs a.f1 b.f1 = false := decide_eq_false c1
      simp only [if_pos c0, if_neg c1, c1', Bool.false_and, Bool.and_false]
      exact ⟨Ev.now _, Ev.now _⟩
  · simp only [if_neg c0, decide_eq_false c0, Bool.false_and]
    exact ⟨Ev.now _, Ev.now _⟩
theorem core (xs ys : List S102) (h : xs.length + (xs.map w102).sum ≤ 1048576) : Ev (fun k => spec_SameResults.f k xs ys) (all2 sameR xs ys) ∧ Ev (fun k => impl_SameResults.f k xs ys) (all2 sameR xs ys) := by
  unfold spec_SameResults.f impl_SameResults.f impl_Result.f
  by_cases hl : (xs.length : Int) = (ys.length : Int)
  · simp only [if_pos hl]
    refine ⟨all2_ev sameR (fun k i => spec_SameResults.l0 k xs ys i) (by omega) ?_ ?_, Ev.bind (all2_ev sameR (fun k i => impl_Result.l0 k ys xs xs.length i) (by omega) ?_ ?_) (Ev.now _)⟩
    · intro k
      simp only [spec_SameResults.l0, if_neg (Int.lt_irrefl _)]
    · intro i a b ha hb hlt
      have e1 : wrap64 ((i : Int) + 1) = (i : Int) + 1 := w64 (by omega) (by omega)
      have hr : rd_T102 xs (i : Int) = a := getD_get i a ha
      have hr' : rd_T102 ys (i : Int) = b := getD_get i b hb
      have hm := one_ev a b (by have := mem_w h (List.mem_of_getElem? ha); unfold w102 at this; omega)
      refine ⟨fun he r ih => ev_succ ?_, fun he => ev_succ ?_⟩
      all_goals simp only [spec_SameResults.l0, e1, hr, hr', if_pos (show (i : Int) < (xs.length : Int) by omega), if_pos (show (0 : Int) ≤ (i : Int) by omega), if_pos (show (i : Int) < (ys.length : Int) by omega)]
      · refine Ev.bind hm.1 ?_
        simp only [he, if_true]
        exact ih
      · refine Ev.bind hm.1 ?_
        simp only [he, Bool.false_eq_true, if_false]
        exact Ev.now _
    · intro k
      simp only [impl_Result.l0, if_neg (Int.lt_irrefl _)]
    · intro i a b ha hb hlt
      have e1 : wrap64 ((i : Int) + 1) = (i : Int) + 1 := w64 (by omega) (by omega)
      have hr : rd_T102 xs (i : Int) = a := getD_get i a ha
      have hr' : rd_T102 ys (i : Int) = b := getD_get i b hb
      have hm := one_ev a b (by have := mem_w h (List.mem_of_getElem? ha); unfold w102 at this; omega)
      refine ⟨fun he r ih => ev_succ ?_, fun he => ev_succ ?_⟩
      all_goals simp only [impl_Result.l0, e1, hr, hr', if_pos (show (i : Int) < (xs.length : Int) by omega), if_pos (show (0 : Int) ≤ (i : Int) by omega), if_pos (show (i : Int) < (ys.length : Int) by omega)]
      · refine Ev.bind hm.2 ?_
        simp only [he, if_true]
        exact ih
      · refine Ev.bind hm.2 ?_
        simp only [he, Bool.false_eq_true, if_false]
        exact Ev.now _
  · simp only [if_neg hl]
    rw [all2_len sameR xs ys (by omega)]
    exact ⟨Ev.now _, Ev.bind (Ev.now _) (Ev.now _)⟩
theorem FnExactSameResults : Go.Proofs.Ytconffflmbakgaa.QFnExactSameResults.Stated := by
  intro l0 m0 y0 z0
  unfold laws_FnExactSameResults.f
  refine Ev.rounds (Ev.bind (szResultS_sz l0 y0 1048576 (by decide) (by decide)) ?_)
  refine (Classical.em _).elim (fun hc => ev_pos hc (Ev.now _)) (fun hc => ev_neg hc ?_)
  have hW := szv_nonneg hc
  have hb := szv_bounds hc (by decide)
  refine Ev.bind (szResultS_sz m0 z0 _ hb.1 hb.2) ?_
  refine (Classical.em _).elim (fun hc => ev_pos hc (Ev.now _)) (fun hc2 => ev_neg hc2 ?_)
  have hW2 := szv_nonneg hc2
  have hto1 := toResultS_to l0 (by omega)
  have hto2 := toResultS_to m0 (by omega)
  have hw1 : (l0.map c121).length + ((l0.map c121).map w102).sum ≤ 1048576 := by rw [cws121]; omega
  have hw2 : (m0.map c121).length + ((m0.map c121).map w102).sum ≤ 1048576 := by rw [cws121]; omega
  obtain ⟨hs1, hs2⟩ := core (l0.map c121) (m0.map c121) hw1
  refine Ev.bind hto1 ?_
  refine Ev.bind hto2 ?_
  refine Ev.bind hs1 ?_
  refine Ev.bind hto1 ?_
  refine Ev.bind hto2 ?_
  refine Ev.bind hs2 ?_
  refine ev_neg (by simp) ?_
  refine Ev.bind hto1 ?_
  refine Ev.bind (eqResultS_eq _ hw1) ?_
  refine ev_pos rfl ?_
  refine Ev.bind hto2 ?_
  refine Ev.bind (eqResultS_eq _ hw2) ?_
  exact ev_pos rfl (Ev.now _)
end Go.Proofs.Ytconffflmbakgaa.Pure
