/-
  FnExactActOk: the pure part: what the law computes is true, whatever the input.
-/
import Derived.Test.YtakelegiamdmaaaFamFnExactActOk
namespace Go.Proofs.Ytakelegiamdmaaa.Pure
open Go.RowKit Go.Proofs.YtakelegiamdmaaaW.PrintWords Go.Proofs.YtakelegiamdmaaaW.PrintLast Go.Proofs.YtakelegiamdmaaaW.PrintMore Go.Proofs.Ytakelegiamdmaaa.PFnExactActOk Go.Proofs.Ytakelegiamdmaaa.Kit
set_option linter.unusedVariables false
set_option linter.unusedSimpArgs false

theorem in_ev (a b c : Int) : spec_l01In.f a b c = some (decide (b ≤ a ∧ a ≤ c)) := by
  unfold spec_l01In.f
  split <;> simp <;> omega
theorem core (a0 a1 : Int) (s1 s2 : ByteArray) (a2 a3 a4 : Int) (s3 : ByteArray) (a5 : Int) : ∃ b, spec_ActOk.f a0 a1 a2 s1 s2 a3 a4 s3 a5 = some b := by
  unfold spec_ActOk.f
  simp only [in_ev, Option.bind_some]
  (repeat' split) <;> exact ⟨_, rfl⟩
theorem FnExactActOk : Go.Proofs.Ytakelegiamdmaaa.PFnExactActOk.Stated := by
  intro a0 a1 a2 a3 a4 a5 a6 a7 a8 y0 y1 y2 y3 y4 y5 y6 y7 y8
  refine ev_const ?_
  unfold laws_FnExactActOk.f
  refine Ev.bind (szAct_sz a0 a1 a2 a3 a4 a5 a6 a7 a8 y3 y4 y7 1048576 (by decide) (by decide)) ?_
  refine (Classical.em _).elim (fun hc => ev_pos hc (Ev.now _)) (fun hc => ev_neg hc ?_)
  have hW := szv_nonneg hc
  have hto := toAct_to a0 a1 a2 a3 a4 a5 a6 a7 a8 (by omega)
  obtain ⟨b, hb⟩ := core a0 a1 a3 a4 a2 a5 a6 a7 a8
  refine Ev.bind hto ?_
  refine Ev.bind (ev_some (a := b) fun _ => hb) ?_
  refine Ev.bind hto ?_
  refine Ev.bind (ev_some (a := b) fun _ => hb) ?_
  exact ev_neg (by simp) (Ev.now _)
end Go.Proofs.Ytakelegiamdmaaa.Pure
