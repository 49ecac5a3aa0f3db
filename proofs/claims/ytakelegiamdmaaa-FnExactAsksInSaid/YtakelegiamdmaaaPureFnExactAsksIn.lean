/-
  FnExactAsksIn: the pure part: what the law computes is true, whatever the input.
-/
import Derived.Test.YtakelegiamdmaaaFamFnExactAsksIn
namespace Go.Proofs.Ytakelegiamdmaaa.Pure
open Go.RowKit Go.Proofs.YtakelegiamdmaaaW.PrintWords Go.Proofs.YtakelegiamdmaaaW.PrintLast Go.Proofs.YtakelegiamdmaaaW.PrintMore Go.Proofs.Ytakelegiamdmaaa.PFnExactAsksIn Go.Proofs.Ytakelegiamdmaaa.Kit
set_option linter.unusedVariables false
set_option linter.unusedSimpArgs false
theorem spec_AsksIn_ev (xs : List S34) (hl : xs.length ≤ 1048576) : Ev (fun k => spec_AsksIn.f k xs) ((xs.filter fun x => decide (x.f0 = 1)).length : Int) := by
  refine count_ev (xs := xs) (fun x => decide (x.f0 = 1)) (fun k c i => spec_AsksIn.l0 k xs c i) (by omega) ?_ ?_
  · intro k c
    simp only [spec_AsksIn.l0, if_neg (Int.lt_irrefl _)]
  · intro k c i a hget hlt h1 h2
    have e1 : wrap64 ((i : Int) + 1) = (i : Int) + 1 := w64 (by omega) (by omega)
    have e2 : wrap64 (c + 1) = c + 1 := w64 (by omega) (by omega)
    have hr : rd_T34 xs (i : Int) = a := getD_get i a hget
    simp only [spec_AsksIn.l0, e1, e2, hr, if_pos (show (i : Int) < (xs.length : Int) by omega), if_pos (show (0 : Int) ≤ (i : Int) by omega), decide_eq_true_eq]
theorem impl_AsksIn_ev (xs : List S34) (hl : xs.length ≤ 1048576) : Ev (fun k => impl_AsksIn.f k xs) ((xs.filter fun x => decide (x.f0 = 1)).length : Int) := by
  refine count_ev (xs := xs) (fun x => decide (x.f0 = 1)) (fun k c i => impl_AsksIn.l0 k c xs xs.length i) (by omega) ?_ ?_
  · intro k c
    simp only [impl_AsksIn.l0, if_neg (Int.lt_irrefl _)]
  · intro k c i a hget hlt h1 h2
    have e1 : wrap64 ((i : Int) + 1) = (i : Int) + 1 := w64 (by omega) (by omega)
    have e2 : wrap64 (c + 1) = c + 1 := w64 (by omega) (by omega)
    have hr : rd_T34 xs (i : Int) = a := getD_get i a hget
    simp only [impl_AsksIn.l0, e1, e2, hr, if_pos (show (i : Int) < (xs.length : Int) by omega), if_pos (show (0 : Int) ≤ (i : Int) by omega), decide_eq_true_eq]

theorem FnExactAsksIn : Go.Proofs.Ytakelegiamdmaaa.PFnExactAsksIn.Stated := by
  intro l0 y0
  unfold laws_FnExactAsksIn.f
  refine Ev.rounds (Ev.bind (szActS_sz l0 y0 1048576 (by decide) (by decide)) ?_)
  by_cases hc : szv (l0.length + (l0.map w30).sum) 1048576 < 0
  · exact ev_pos hc (Ev.now _)
  · refine ev_neg hc ?_
    have hW : l0.length + (l0.map w30).sum ≤ 1048576 := by have := szv_nonneg hc; omega
    have hto := toActS_to l0 hW
    refine Ev.bind hto ?_
    refine Ev.bind (spec_AsksIn_ev _ (by rw [List.length_map]; omega)) ?_
    refine Ev.bind hto ?_
    refine Ev.bind (impl_AsksIn_ev _ (by rw [List.length_map]; omega)) ?_
    refine ev_pos rfl ?_
    refine Ev.bind hto ?_
    refine Ev.bind (eqActS_eq (l0.map c30) (by rw [cws30]; exact hW)) ?_
    exact ev_pos rfl (Ev.now _)
end Go.Proofs.Ytakelegiamdmaaa.Pure
