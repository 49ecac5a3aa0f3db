import Derived.Test.YtjjdjkkhhcbogaaGreatFG22
namespace Go.Proofs.YtjjdjkkhhcbogaaGreat.DM
set_option linter.unusedVariables false
set_option linter.unusedSimpArgs false
set_option maxRecDepth 4000
set_option maxHeartbeats 8000000
theorem specStepBad (S : System) (t : Int) (hS : Row.sz S ≤ 2 ^ 36) (hn : sysTen S t = false) : Spec Tryz.prog 35 [raSystem S, ri t] [some 8, some 5, none] (System.d (stepJob S t).1 ++ (Result.d (stepJob S t).2.1 ++ [di (stepJob S t).2.2])) [raSystem S, ri t] := by
  refine Spec.intro Tryz.func35 rfl rfl Tryz.ntmps35 rfl (by simp) ?_
  refine DW.seq ?_
  refine DW.reg (by simp (maxSteps := 200000) (disch := first | omega | (simp; done) | fail) [wrapI, leT, leF, ltT, ltF, eqF, nleT, nleF, nltT, nltF]; rfl) ?_
  refine DW.seq ?_
  refine DW.regs ?_
  refine RegO.opN 1 (by simp; rfl) ?_
  refine RegO.step rfl (OpStep.callA rfl (by simp; exact ⟨rfl, rfl⟩) (by simp; rfl) (by exact l23Copy_spec S hS) (by simp) (by simp; rfl)) ?_
  refine RegO.opN 2 (by simp; rfl) ?_
  refine RegO.nil ?_
  refine DW.norm [(1, _), (2, _), (4, _), (5, _), (7, _)] [(2, _), (4, _), (5, _), (7, _)] [] (by simp; exact ⟨rfl, rfl, rfl, rfl, rfl⟩) (by simp; exact ⟨rfl, rfl, rfl, rfl⟩) (by simp) (by rfl) ?_
  refine DW.seq ?_
  refine DW.seq ?_
  have hsp : ((sysOk S) = false) ∨ ((sysOk S) = true ∧ (inB t 0 (S.Geo.Tenants - 1)) = false) ∨ ((sysOk S) = true ∧ (inB t 0 (S.Geo.Tenants - 1)) = true) := by
    cases (sysOk S) <;> cases (inB t 0 (S.Geo.Tenants - 1)) <;> simp
  rcases hsp with g0 | ⟨g0, g1⟩ | ⟨g0, g1⟩
  · have hres : stepJob S t = (S, resZ, 15) := by simp [stepJob, sysTen, g0]
    have hwt := trivial
    refine DW.regs ?_
    refine RegO.opN 1 (by simp (maxSteps := 200000) (disch := first | omega | (simp; done) | fail) [wrapI, leT, leF, ltT, ltF, eqF, nleT, nleF, nltT, nltF, g0]; rfl) ?_
    refine RegO.step rfl (OpStep.callA rfl (by simp (maxSteps := 200000) (disch := first | omega | (simp; done) | fail) [wrapI, leT, leF, ltT, ltF, eqF, nleT, nleF, nltT, nltF, g0]; exact ⟨rfl, rfl⟩) (by simp (maxSteps := 200000) (disch := first | omega | (simp; done) | fail) [wrapI, leT, leF, ltT, ltF, eqF, nleT, nleF, nltT, nltF, g0]; rfl) (by exact specSystemOk_spec S hS) (by simp) (by simp (maxSteps := 200000) (disch := first | omega | (simp; done) | fail) [wrapI, leT, leF, ltT, ltF, eqF, nleT, nleF, nltT, nltF, g0]; rfl)) ?_
    refine RegO.opN 10 (by simp (maxSteps := 200000) (disch := first | omega | (simp; done) | fail) [wrapI, leT, leF, ltT, ltF, eqF, nleT, nleF, nltT, nltF, g0]; rfl) ?_
    refine RegO.nil ?_
    refine DW.condT (by simp (maxSteps := 200000) (disch := first | omega | (simp; done) | fail) [wrapI, leT, leF, ltT, ltF, eqF, nleT, nleF, nltT, nltF, g0]) ?_
    refine DW.seq ?_
    refine DW.reg (by simp [g0]; rfl) ?_
    refine DW.ghost (Ghost.wide 5 [4] 1 (by simp; rfl) (by simp)) ?_
    refine DW.ret ?_
    rw [hres]
    simp [Tryz.results35, resZ]
  · have hres : stepJob S t = (S, resZ, 15) := by simp [stepJob, sysTen, g0, g1]
    have hwt := wr (S.Geo.Tenants - 1) (by have := (sysOk_in g0).1.t; omega) (by have := (sysOk_in g0).1.t; omega)
    refine DW.regs ?_
    refine RegO.opN 1 (by simp (maxSteps := 200000) (disch := first | omega | (simp; done) | fail) [wrapI, leT, leF, ltT, ltF, eqF, nleT, nleF, nltT, nltF, g0, g1, hwt]; rfl) ?_
    refine RegO.step rfl (OpStep.callA rfl (by simp (maxSteps := 200000) (disch := first | omega | (simp; done) | fail) [wrapI, leT, leF, ltT, ltF, eqF, nleT, nleF, nltT, nltF, g0, g1, hwt]; exact ⟨rfl, rfl⟩) (by simp (maxSteps := 200000) (disch := first | omega | (simp; done) | fail) [wrapI, leT, leF, ltT, ltF, eqF, nleT, nleF, nltT, nltF, g0, g1, hwt]; rfl) (by exact specSystemOk_spec S hS) (by simp) (by simp (maxSteps := 200000) (disch := first | omega | (simp; done) | fail) [wrapI, leT, leF, ltT, ltF, eqF, nleT, nleF, nltT, nltF, g0, g1, hwt]; rfl)) ?_
    refine RegO.opN 7 (by simp (maxSteps := 200000) (disch := first | omega | (simp; done) | fail) [wrapI, leT, leF, ltT, ltF, eqF, nleT, nleF, nltT, nltF, g0, g1, hwt]; rfl) ?_
    refine RegO.stepT (by simp (maxSteps := 200000) (disch := first | omega | (simp; done) | fail) [wrapI, leT, leF, ltT, ltF, eqF, nleT, nleF, nltT, nltF, g0, g1, hwt]) (OpStep.callA rfl (by simp (maxSteps := 200000) (disch := first | omega | (simp; done) | fail) [wrapI, leT, leF, ltT, ltF, eqF, nleT, nleF, nltT, nltF, g0, g1, hwt]; exact ⟨rfl, rfl⟩) (by simp (maxSteps := 200000) (disch := first | omega | (simp; done) | fail) [wrapI, leT, leF, ltT, ltF, eqF, nleT, nleF, nltT, nltF, g0, g1, hwt]; rfl) (by exact l01In_spec _ _ _) (by simp) (by simp (maxSteps := 200000) (disch := first | omega | (simp; done) | fail) [wrapI, leT, leF, ltT, ltF, eqF, nleT, nleF, nltT, nltF, g0, g1, hwt]; rfl)) ?_
    refine RegO.opN 2 (by simp (maxSteps := 200000) (disch := first | omega | (simp; done) | fail) [wrapI, leT, leF, ltT, ltF, eqF, nleT, nleF, nltT, nltF, g0, g1, hwt]; rfl) ?_
    refine RegO.nil ?_
    refine DW.condT (by simp (maxSteps := 200000) (disch := first | omega | (simp; done) | fail) [wrapI, leT, leF, ltT, ltF, eqF, nleT, nleF, nltT, nltF, g0, g1, hwt]) ?_
    refine DW.seq ?_
    refine DW.reg (by simp [g0, g1, hwt]; rfl) ?_
    refine DW.ghost (Ghost.wide 5 [4] 1 (by simp; rfl) (by simp)) ?_
    refine DW.ret ?_
    rw [hres]
    simp [Tryz.results35, resZ]
  · simp [sysTen, g0, g1] at hn
end Go.Proofs.YtjjdjkkhhcbogaaGreat.DM
