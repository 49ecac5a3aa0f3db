/-
  FnExactOnlyOf: the pure part: what the law computes is true, whatever the input.
-/
import Derived.Test.YtklghegofjigoaaFamFnExactOnlyOf
import Derived.Test.YtklghegofjigoaaKit2
namespace Go.Proofs.Ytklghegofjigoaa.Pure
open Go.RowKit Go.Proofs.YtklghegofjigoaaW.PrintWords Go.Proofs.YtklghegofjigoaaW.PrintLast Go.Proofs.YtklghegofjigoaaW.PrintMore Go.Proofs.Ytklghegofjigoaa.QFnExactOnlyOf Go.Proofs.Ytklghegofjigoaa.Kit
set_option linter.unusedVariables false
set_option linter.unusedSimpArgs false

def pick (t : Int) (x : S33) : List S33 := if x.f1 = t ∧ (x.f0 = 1 ∨ x.f0 = 2) then [x] else []
theorem pick_le (t : Int) (x : S33) : (pick t x).length ≤ 1 := by unfold pick; split <;> simp
theorem pick_w (t : Int) (x : S33) : ((pick t x).map w33).sum ≤ w33 x := by
  unfold pick
  split
  · simp
  · simp
theorem spec_ev (xs : List S33) (t : Int) (hl : xs.length ≤ 1048576) : Ev (fun k => spec_OnlyOf.f k xs t) (xs.flatMap (pick t)) := by
  refine collect_ev (pick t) (pick_le t) (fun k y i => spec_OnlyOf.l0 k xs t y i) ?_ ?_
  · intro k y
    simp only [spec_OnlyOf.l0, if_neg (Int.lt_irrefl _)]
  · intro y i a hget hlt hy r ih
    have f1 : (i : Int) < (xs.length : Int) := by omega
    have f2 : (0 : Int) ≤ (i : Int) := by omega
    have f3 : y.length < 1466015503701 := by omega
    have e1 : wrap64 ((i : Int) + 1) = (i : Int) + 1 := w64 (by omega) (by omega)
    have hr : rd_T33 xs (i : Int) = a := getD_get i a hget
    refine ev_succ ?_
    simp only [spec_OnlyOf.l0, e1, hr, if_pos f1, if_pos f2, if_pos f3]
    unfold pick at ih
    by_cases h1 : a.f1 = t
    · by_cases h2 : a.f0 = 1
      · rw [if_pos ⟨h1, Or.inl h2⟩] at ih
        simp only [if_pos h1, if_pos h2]
        exact ih
      · by_cases h3 : a.f0 = 2
        · rw [if_pos ⟨h1, Or.inr h3⟩] at ih
          simp only [if_pos h1, if_neg h2, if_pos h3]
          exact ih
        · rw [if_neg (fun h => h.2.elim h2 h3), List.append_nil] at ih
          simp only [if_pos h1, if_neg h2, if_neg h3]
          exact ih
    · rw [if_neg (fun h => h1 h.1), List.append_nil] at ih
      simp only [if_neg h1]
      exact ih
theorem impl_ev (xs : List S33) (t : Int) (hl : xs.length ≤ 1048576) : Ev (fun k => impl_OnlyOf.f k xs t) (xs.flatMap (pick t)) := by
  refine collect_ev (pick t) (pick_le t) (fun k y i => impl_OnlyOf.l0 k t y xs xs.length i) ?_ ?_
  · intro k y
    simp only [impl_OnlyOf.l0, if_neg (Int.lt_irrefl _)]
  · intro y i a hget hlt hy r ih
    have f1 : (i : Int) < (xs.length : Int) := by omega
    have f2 : (0 : Int) ≤ (i : Int) := by omega
    have f3 : y.length < 1466015503701 := by omega
    have e1 : wrap64 ((i : Int) + 1) = (i : Int) + 1 := w64 (by omega) (by omega)
    have hr : rd_T33 xs (i : Int) = a := getD_get i a hget
    refine ev_succ ?_
    simp only [impl_OnlyOf.l0, e1, hr, if_pos f1, if_pos f2, if_pos f3]
    unfold pick at ih
    by_cases h1 : a.f1 = t
    · by_cases h2 : a.f0 = 1
      · rw [if_pos ⟨h1, Or.inl h2⟩] at ih
        simp only [if_pos h1, if_pos h2]
        exact ih
      · by_cases h3 : a.f0 = 2
        · rw [if_pos ⟨h1, Or.inr h3⟩] at ih
          simp only [if_pos h1, if_neg h2, if_pos h3]
          exact ih
        · rw [if_neg (fun h => h.2.elim h2 h3), List.append_nil] at ih
          simp only [if_neg h2, if_neg h3]
          exact ih
    · rw [if_neg (fun h => h1 h.1), List.append_nil] at ih
      simp only [if_neg h1, ite_self]
      exact ih
theorem FnExactOnlyOf : Go.Proofs.Ytklghegofjigoaa.QFnExactOnlyOf.Stated := by
  intro l0 a1 y0 _
  unfold laws_FnExactOnlyOf.f
  refine Ev.rounds (Ev.bind (szActS_sz l0 y0 1048576 (by decide) (by decide)) ?_)
  refine (Classical.em _).elim (fun hc => ev_pos hc (Ev.now _)) (fun hc => ev_neg hc ?_)
  have hW := szv_nonneg hc
  have hto := toActS_to l0 (by omega)
  have hW' : (l0.map c104).length + ((l0.map c104).map w33).sum ≤ 1048576 := by rw [cws104]; omega
  have hR := flat_w (pick_le a1) (pick_w a1) (l0.map c104)
  have hs := spec_ev (l0.map c104) a1 (by omega)
  have hi := impl_ev (l0.map c104) a1 (by omega)
  have heW := eqActS_eq ((l0.map c104).flatMap (pick a1)) (by omega)
  have hmk := markActS_mk (l0.map c104) (by omega)
  have hmk2 := markActS_mk ((l0.map c104).flatMap (pick a1)) (by omega)
  have hhd := heldActS_hd ((l0.map c104).flatMap (pick a1)) (by omega)
  refine Ev.bind hto ?_
  refine Ev.bind hs ?_
  refine Ev.bind hto ?_
  refine Ev.bind hi ?_
  refine Ev.bind heW ?_
  refine ev_pos rfl ?_
  refine Ev.bind hto ?_
  refine Ev.bind (eqActS_eq (l0.map c104) hW') ?_
  refine ev_pos rfl ?_
  refine Ev.bind hmk ?_
  refine ev_neg (by omega) ?_
  refine Ev.bind heW ?_
  refine ev_succ ?_
  simp only [laws_FnExactOnlyOf.j0, Bool.not_true, Bool.false_eq_true, if_false]
  refine Ev.bind hmk2 ?_
  refine Ev.bind hhd ?_
  refine ev_neg (by omega) ?_
  refine ev_pos rfl ?_
  refine Ev.bind hto ?_
  refine Ev.bind hi ?_
  refine Ev.bind heW ?_
  refine ev_pos rfl ?_
  refine Ev.bind hhd ?_
  refine ev_neg (by omega) ?_
  exact ev_pos rfl (Ev.now _)
end Go.Proofs.Ytklghegofjigoaa.Pure
