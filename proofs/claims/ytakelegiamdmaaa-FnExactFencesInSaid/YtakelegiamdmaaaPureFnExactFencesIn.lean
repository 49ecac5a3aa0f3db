/-
  FnExactFencesIn: the pure part: what the law computes is true, whatever the input.
-/
import Derived.Test.YtakelegiamdmaaaFamFnExactFencesIn
namespace Go.Proofs.Ytakelegiamdmaaa.Pure
open Go.RowKit Go.Proofs.YtakelegiamdmaaaW.PrintWords Go.Proofs.YtakelegiamdmaaaW.PrintLast Go.Proofs.YtakelegiamdmaaaW.PrintMore Go.Proofs.Ytakelegiamdmaaa.PFnExactFencesIn Go.Proofs.Ytakelegiamdmaaa.Kit
set_option linter.unusedVariables false
set_option linter.unusedSimpArgs false
theorem spec_FencesIn_ev (xs : List S108) (hl : xs.length ≤ 1048576) : Ev (fun k => spec_FencesIn.f k xs) ((xs.filter fun x => decide (x.f0 = 3)).length : Int) := by
  refine count_ev (xs := xs) (fun x => decide (x.f0 = 3)) (fun k c i => spec_FencesIn.l0 k xs c i) (by omega) ?_ ?_
  · intro k c
    simp only [spec_FencesIn.l0, if_neg (Int.lt_irrefl _)]
  · intro k c i a hget hlt h1 h2
    have e1 : wrap64 ((i : Int) + 1) = (i : Int) + 1 := w64 (by omega) (by omega)
    have e2 : wrap64 (c + 1) = c + 1 := w64 (by omega) (by omega)
    have hr : rd_T108 xs (i : Int) = a := getD_get i a hget
    simp only [spec_FencesIn.l0, e1, e2, hr, if_pos (show (i : Int) < (xs.length : Int) by omega), if_pos (show (0 : Int) ≤ (i : Int) by omega), decide_eq_true_eq]
theorem impl_FencesIn_ev (xs : List S108) (hl : xs.length ≤ 1048576) : Ev (fun k => impl_FencesIn.f k xs) ((xs.filter fun x => decide (x.f0 = 3)).length : Int) := by
  refine count_ev (xs := xs) (fun x => decide (x.f0 = 3)) (fun k c i => impl_FencesIn.l0 k c xs xs.length i) (by omega) ?_ ?_
  · intro k c
    simp only [impl_FencesIn.l0, if_neg (Int.lt_irrefl _)]
  · intro k c i a hget hlt h1 h2
    have e1 : wrap64 ((i : Int) + 1) = (i : Int) + 1 := w64 (by omega) (by omega)
    have e2 : wrap64 (c + 1) = c + 1 := w64 (by omega) (by omega)
    have hr : rd_T108 xs (i : Int) = a := getD_get i a hget
    simp only [impl_FencesIn.l0, e1, e2, hr, if_pos (show (i : Int) < (xs.length : Int) by omega), if_pos (show (0 : Int) ≤ (i : Int) by omega), decide_eq_true_eq]

theorem FnExactFencesIn : Go.Proofs.Ytakelegiamdmaaa.PFnExactFencesIn.Stated := by
  intro l0 y0
  unfold laws_FnExactFencesIn.f
  refine Ev.rounds (Ev.bind (szStepS_sz l0 y0 1048576 (by decide) (by decide)) ?_)
  by_cases hc : szv (l0.length + (l0.map w107).sum) 1048576 < 0
  · exact ev_pos hc (Ev.now _)
  · refine ev_neg hc ?_
    have hW : l0.length + (l0.map w107).sum ≤ 1048576 := by have := szv_nonneg hc; omega
    have hto := toStepS_to l0 hW
    refine Ev.bind hto ?_
    refine Ev.bind (spec_FencesIn_ev _ (by rw [List.length_map]; omega)) ?_
    refine Ev.bind hto ?_
    refine Ev.bind (impl_FencesIn_ev _ (by rw [List.length_map]; omega)) ?_
    refine ev_pos rfl ?_
    refine Ev.bind hto ?_
    refine Ev.bind (eqStepS_eq (l0.map c107) (by rw [cws107]; exact hW)) ?_
    exact ev_pos rfl (Ev.now _)
end Go.Proofs.Ytakelegiamdmaaa.Pure
