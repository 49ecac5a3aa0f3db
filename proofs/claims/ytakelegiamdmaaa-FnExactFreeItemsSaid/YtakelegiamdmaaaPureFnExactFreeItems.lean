/-
  FnExactFreeItems: the pure part: what the law computes is true, whatever the input.
-/
import Derived.Test.YtakelegiamdmaaaFamFnExactFreeItems
namespace Go.Proofs.Ytakelegiamdmaaa.Pure
open Go.RowKit Go.Proofs.YtakelegiamdmaaaW.PrintWords Go.Proofs.YtakelegiamdmaaaW.PrintLast Go.Proofs.YtakelegiamdmaaaW.PrintMore Go.Proofs.Ytakelegiamdmaaa.PFnExactFreeItems Go.Proofs.Ytakelegiamdmaaa.Kit
set_option linter.unusedVariables false
set_option linter.unusedSimpArgs false
def geoB (t p i q : Int) : Bool := decide (1 ≤ t ∧ t ≤ 3 ∧ 5 ≤ p ∧ p ≤ 12 ∧ 2 ≤ i ∧ i ≤ 6 ∧ 1 ≤ q ∧ q ≤ p - 4)
theorem in_ev (a b c : Int) : spec_l01In.f a b c = some (decide (b ≤ a ∧ a ≤ c)) := by
  unfold spec_l01In.f
  split <;> simp <;> omega
theorem within_ev (a b c : Int) : impl_within.f a b c = some (decide (b ≤ a ∧ a ≤ c)) := by
  unfold impl_within.f
  split <;> simp <;> omega
theorem spec_geo (t p i q : Int) : spec_GeoOk.f t p i q = some (geoB t p i q) := by
  unfold spec_GeoOk.f geoB
  simp only [in_ev, Option.bind_some, decide_eq_true_eq]
  by_cases h1 : 1 ≤ t ∧ t ≤ 3
  · by_cases h2 : 5 ≤ p ∧ p ≤ 12
    · have e : wrap64 (p - 4) = p - 4 := w64 (by omega) (by omega)
      by_cases h3 : 2 ≤ i ∧ i ≤ 6
      · simp only [if_pos h1, if_pos h2, if_pos h3, e]
        congr 1
        simp only [decide_eq_decide]
        omega
      · simp only [if_pos h1, if_pos h2, if_neg h3]
        symm; congr 1; simp only [decide_eq_false_iff_not]; omega
    · simp only [if_pos h1, if_neg h2]
      symm; congr 1; simp only [decide_eq_false_iff_not]; omega
  · simp only [if_neg h1]
    symm; congr 1; simp only [decide_eq_false_iff_not]; omega
theorem impl_geo (t p i q : Int) : impl_GeoOk.f t p i q = some (geoB t p i q) := by
  rw [← spec_geo]
  unfold spec_GeoOk.f impl_GeoOk.f
  simp only [in_ev, within_ev]
theorem brought_ev (n a b : Int) (h : a ≤ b) : Ev (fun k => spec_Brought.f k n a b) (if n < a then a else if n > b then b else n) := by
  unfold spec_Brought.f
  refine ev_neg (by omega) (ev_succ ?_)
  simp only [spec_Brought.j0, decide_eq_true_eq]
  refine ev_some fun _ => ?_
  repeat' split
  all_goals rfl

theorem FnExactFreeItems : Go.Proofs.Ytakelegiamdmaaa.PFnExactFreeItems.Stated := by
  intro a0 a1 a2 a3 l0 y0 y1 y2 y3 y4
  unfold laws_FnExactFreeItems.f
  refine Ev.rounds (Ev.bind (szView_sz l0 y4 1048576 (by decide) (by decide)) ?_)
  refine (Classical.em _).elim (fun hc => ev_pos hc (Ev.now _)) (fun hc => ev_neg hc ?_)
  have hW := szv_nonneg hc
  have hto := toView_to l0 (by omega)
  have hg : Ev (fun _ => laws_toGeo.f a0 a1 a2 a3) (a0, a1, a2, a3) := ev_some fun _ => rfl
  have hs : ∃ r, Ev (fun k => spec_FreeItems.f k a0 a1 a2 a3 (l0.map c145)) r ∧ impl_FreeItems.f a0 a1 a2 a3 (l0.map c145) = some r := by
    unfold spec_FreeItems.f impl_FreeItems.f
    simp only [spec_geo, impl_geo, Option.bind_some]
    by_cases hG : geoB a0 a1 a2 a3 = true
    · simp only [if_pos hG]
      have hG' : 1 ≤ a0 ∧ a0 ≤ 3 ∧ 5 ≤ a1 ∧ a1 ≤ 12 ∧ 2 ≤ a2 ∧ a2 ≤ 6 ∧ 1 ≤ a3 ∧ a3 ≤ a1 - 4 := by simpa [geoB] using hG
      have e1 : wrap64 (a2 - 1) = a2 - 1 := w64 (by omega) (by omega)
      have e2 : wrap64 (a2 - 1 - ((l0.map c145).length : Int)) = a2 - 1 - (l0.length : Int) := by rw [List.length_map]; exact w64 (by omega) (by omega)
      simp only [e1, e2]
      refine ⟨_, Ev.bind (brought_ev _ _ _ (by omega)) (Ev.now _), ?_⟩
      congr 1
      unfold mx
      repeat' split
      all_goals omega
    · simp only [if_neg hG]
      exact ⟨_, Ev.now _, rfl⟩
  obtain ⟨r, hs1, hs2⟩ := hs
  refine Ev.bind hg ?_
  refine Ev.bind hto ?_
  refine Ev.bind hs1 ?_
  refine Ev.bind hto ?_
  refine Ev.bind hg ?_
  refine Ev.bind (ev_some (a := r) fun _ => hs2) ?_
  refine ev_pos rfl ?_
  refine Ev.bind hto ?_
  refine Ev.bind (eqView_eq (l0.map c145) (by have := cws145 l0; omega)) ?_
  exact ev_pos rfl (Ev.now _)
end Go.Proofs.Ytakelegiamdmaaa.Pure
