/-
  FnExactSameShape: the pure part: what the law computes is true, whatever the input.
-/
import Derived.Test.YtakelegiamdmaaaFamFnExactSameShape
namespace Go.Proofs.Ytakelegiamdmaaa.Pure
open Go.RowKit Go.Proofs.YtakelegiamdmaaaW.PrintWords Go.Proofs.YtakelegiamdmaaaW.PrintLast Go.Proofs.YtakelegiamdmaaaW.PrintMore Go.Proofs.Ytakelegiamdmaaa.PFnExactSameShape Go.Proofs.Ytakelegiamdmaaa.Kit
set_option linter.unusedVariables false
set_option linter.unusedSimpArgs false

theorem core (a0 : Int) (a1 a2 : ByteArray) (a3 a4 : Int) (a5 : ByteArray) (b0 : Int) (b1 b2 : ByteArray) (b3 b4 : Int) (b5 : ByteArray) : ∃ b, spec_SameShape.f a0 a1 a2 a3 a4 a5 b0 b1 b2 b3 b4 b5 = some b := by
  unfold spec_SameShape.f
  split <;> exact ⟨_, rfl⟩
theorem FnExactSameShape : Go.Proofs.Ytakelegiamdmaaa.PFnExactSameShape.Stated := by
  intro a0 a1 a2 a3 a4 a5 b0 b1 b2 b3 b4 b5 y0 y1 y2 y3 y4 y5 z0 z1 z2 z3 z4 z5
  refine ev_const ?_
  unfold laws_FnExactSameShape.f
  refine Ev.bind (szAsk_sz a0 a1 a2 a3 a4 a5 y1 y2 y5 1048576 (by decide) (by decide)) ?_
  refine (Classical.em _).elim (fun hc => ev_pos hc (Ev.now _)) (fun hc => ev_neg hc ?_)
  have hW := szv_nonneg hc
  have hb := szv_bounds hc (by decide)
  refine Ev.bind (szAsk_sz b0 b1 b2 b3 b4 b5 z1 z2 z5 _ hb.1 hb.2) ?_
  refine (Classical.em _).elim (fun hc => ev_pos hc (Ev.now _)) (fun hc2 => ev_neg hc2 ?_)
  have hW2 := szv_nonneg hc2
  have hto1 := toAsk_to a0 a1 a2 a3 a4 a5 (by omega)
  have hto2 := toAsk_to b0 b1 b2 b3 b4 b5 (by omega)
  obtain ⟨b, hb⟩ := core a0 a1 a2 a3 a4 a5 b0 b1 b2 b3 b4 b5
  refine Ev.bind hto1 ?_
  refine Ev.bind hto2 ?_
  refine Ev.bind (ev_some (a := b) fun _ => hb) ?_
  refine Ev.bind hto1 ?_
  refine Ev.bind hto2 ?_
  refine Ev.bind (ev_some (a := b) fun _ => hb) ?_
  exact ev_neg (by simp) (Ev.now _)
end Go.Proofs.Ytakelegiamdmaaa.Pure
