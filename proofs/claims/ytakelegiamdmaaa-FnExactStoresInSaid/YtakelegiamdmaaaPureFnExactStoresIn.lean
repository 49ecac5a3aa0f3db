/-
  FnExactStoresIn: the pure part: what the law computes is true, whatever the input.
-/
import Derived.Test.YtakelegiamdmaaaFamFnExactStoresIn
namespace Go.Proofs.Ytakelegiamdmaaa.Pure
open Go.RowKit Go.Proofs.YtakelegiamdmaaaW.PrintWords Go.Proofs.YtakelegiamdmaaaW.PrintLast Go.Proofs.YtakelegiamdmaaaW.PrintMore Go.Proofs.Ytakelegiamdmaaa.PFnExactStoresIn Go.Proofs.Ytakelegiamdmaaa.Kit
set_option linter.unusedVariables false
set_option linter.unusedSimpArgs false

def pick (x : S108) : List S126 := if x.f0 = 1 then [⟨x.f1, x.f2⟩] else []
theorem pick_le (x : S108) : (pick x).length ≤ 1 := by unfold pick; split <;> simp
theorem pick_w (x : S108) : ((pick x).map w126).sum ≤ w108 x := by
  unfold pick
  split
  · simp [w126, w108]
  · simp
theorem spec_ev (xs : List S108) (hl : xs.length ≤ 1048576) : Ev (fun k => spec_StoresIn.f k xs) (xs.flatMap pick) := by
  refine collect_ev pick pick_le (fun k y i => spec_StoresIn.l0 k xs y i) ?_ ?_
  · intro k y
    simp only [spec_StoresIn.l0, if_neg (Int.lt_irrefl _)]
  · intro y i a hget hlt hy r ih
    have e1 : wrap64 ((i : Int) + 1) = (i : Int) + 1 := w64 (by omega) (by omega)
    have hr : rd_T108 xs (i : Int) = a := getD_get i a hget
    refine ev_succ ?_
    simp only [spec_StoresIn.l0, e1, hr, if_pos (show (i : Int) < (xs.length : Int) by omega), if_pos (show (0 : Int) ≤ (i : Int) by omega), if_pos (show y.length < 5864062014805 by omega)]
    unfold pick at ih
    split
    · rename_i h; simpa only [if_pos h] using ih
    · rename_i h; simpa only [if_neg h, List.append_nil] using ih
theorem impl_ev (xs : List S108) (hl : xs.length ≤ 1048576) : Ev (fun k => impl_StoresIn.f k xs) (xs.flatMap pick) := by
  refine collect_ev pick pick_le (fun k y i => impl_StoresIn.l0 k y xs xs.length i) ?_ ?_
  · intro k y
    simp only [impl_StoresIn.l0, if_neg (Int.lt_irrefl _)]
  · intro y i a hget hlt hy r ih
    have e1 : wrap64 ((i : Int) + 1) = (i : Int) + 1 := w64 (by omega) (by omega)
    have hr : rd_T108 xs (i : Int) = a := getD_get i a hget
    refine ev_succ ?_
    simp only [impl_StoresIn.l0, e1, hr, if_pos (show (i : Int) < (xs.length : Int) by omega), if_pos (show (0 : Int) ≤ (i : Int) by omega), if_pos (show y.length < 5864062014805 by omega)]
    unfold pick at ih
    split
    · rename_i h; simpa only [if_pos h] using ih
    · rename_i h; simpa only [if_neg h, List.append_nil] using ih
theorem FnExactStoresIn : Go.Proofs.Ytakelegiamdmaaa.PFnExactStoresIn.Stated := by
  intro l0 y0
  unfold laws_FnExactStoresIn.f
  refine Ev.rounds (Ev.bind (szStepS_sz l0 y0 1048576 (by decide) (by decide)) ?_)
  refine (Classical.em _).elim (fun hc => ev_pos hc (Ev.now _)) (fun hc => ev_neg hc ?_)
  have hW := szv_nonneg hc
  have hto := toStepS_to l0 (by omega)
  have hW' : (l0.map c107).length + ((l0.map c107).map w108).sum ≤ 1048576 := by rw [cws107]; omega
  have hR := flat_w pick_le pick_w (l0.map c107)
  have hs := spec_ev (l0.map c107) (by omega)
  have hi := impl_ev (l0.map c107) (by omega)
  have heW := eqWriteS_eq ((l0.map c107).flatMap pick) (by omega)
  have hmk := markStepS_mk (l0.map c107) (by omega)
  have hmk2 := markWriteS_mk ((l0.map c107).flatMap pick) (by omega)
  have hhd := heldWriteS_hd ((l0.map c107).flatMap pick) (by omega)
  refine Ev.bind hto ?_
  refine Ev.bind hs ?_
  refine Ev.bind hto ?_
  refine Ev.bind hi ?_
  refine Ev.bind heW ?_
  refine ev_pos rfl ?_
  refine Ev.bind hto ?_
  refine Ev.bind (eqStepS_eq (l0.map c107) hW') ?_
  refine ev_pos rfl ?_
  refine Ev.bind hmk ?_
  refine ev_neg (by omega) ?_
  refine Ev.bind heW ?_
  refine ev_succ ?_
  simp only [laws_FnExactStoresIn.j0, Bool.not_true, Bool.false_eq_true, if_false]
  refine Ev.bind hmk2 ?_
  refine Ev.bind hhd ?_
  refine ev_neg (by omega) ?_
  refine ev_pos rfl ?_
  refine Ev.bind hto ?_
  refine Ev.bind hi ?_
  refine Ev.bind heW ?_
  refine ev_pos rfl ?_
  refine Ev.bind hhd ?_
  refine ev_neg (by omega) ?_
  exact ev_pos rfl (Ev.now _)
end Go.Proofs.Ytakelegiamdmaaa.Pure
