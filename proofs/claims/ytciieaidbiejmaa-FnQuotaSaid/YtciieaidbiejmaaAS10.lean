import Derived.Test.YtciieaidbiejmaaAS7
import Derived.Test.YtciieaidbiejmaaAS5
namespace Go.Proofs.Ytciieaidbiejmaa.DM
set_option linter.unusedVariables false
set_option linter.unusedSimpArgs false
set_option maxRecDepth 4000
set_option maxHeartbeats 8000000
theorem newM_spec (g : Geo) (l : List Item) (a : Ask) (hs : l.length ≤ 1048576) : Spec Try.prog 20 [raGeo g, raV l, raAsk a] [some 1, some 5] (dV (newM g l a).1 ++ Result.d (newM g l a).2) [raGeo g, raV l, raAsk a] := by
  refine Spec.intro Try.func20 rfl rfl Try.ntmps20 rfl (by simp) ?_
  have hl := hs
  obtain ⟨pc, hpc⟩ : ∃ x, placeFor l a.Path = x := ⟨_, rfl⟩
  have hpl := placeFor_spec l a.Path hl
  rw [hpc] at hpl
  have hnm : newM g l a = if (if pc = 0 ∧ g.Inodes ≤ (l.length : Int) + 1 then 8 else pc) ≠ 0 then (l, failsR (if pc = 0 ∧ g.Inodes ≤ (l.length : Int) + 1 then 8 else pc)) else (putF ⟨a.Path, a.Kind == 2, ByteArray.empty⟩ false l, failsR 0) := by unfold newM newCode; rw [hpc]
  rw [hnm]
  clear hnm hpc
  refine DW.seq ?_
  refine DW.reg (by simp (maxSteps := 200000) (disch := first | omega | (simp; done) | fail) [wrapI, leT, leF, ltT, ltF, eqF, nleT, nleF, nltT, nltF]; rfl) ?_
  refine DW.seq ?_
  refine DW.regs ?_
  refine RegO.opN 3 (by simp (maxSteps := 200000) (disch := first | omega | (simp; done) | fail) [wrapI, leT, leF, ltT, ltF, eqF, nleT, nleF, nltT, nltF]; rfl) ?_
  refine RegO.step rfl (OpStep.callA rfl (by simp (maxSteps := 200000) (disch := first | omega | (simp; done) | fail) [wrapI, leT, leF, ltT, ltF, eqF, nleT, nleF, nltT, nltF]; exact ⟨rfl, rfl⟩) (by simp (maxSteps := 200000) (disch := first | omega | (simp; done) | fail) [wrapI, leT, leF, ltT, ltF, eqF, nleT, nleF, nltT, nltF]; rfl) (by exact hpl) (by simp) (by simp (maxSteps := 200000) (disch := first | omega | (simp; done) | fail) [wrapI, leT, leF, ltT, ltF, eqF, nleT, nleF, nltT, nltF]; rfl)) ?_
  refine RegO.opN 1 (by simp (maxSteps := 200000) (disch := first | omega | (simp; done) | fail) [wrapI, leT, leF, ltT, ltF, eqF, nleT, nleF, nltT, nltF]; rfl) ?_
  refine RegO.nil ?_
  refine DW.norm [(3, _), (4, _), (5, _), (6, _), (7, _), (8, _)] [(3, _), (4, _), (5, _), (6, _), (7, _)] [] (by simp; exact ⟨rfl, rfl, rfl, rfl, rfl, rfl⟩) (by simp; exact ⟨rfl, rfl, rfl, rfl, rfl⟩) (by simp) (by rfl) ?_
  refine DW.seq ?_
  refine DW.seq ?_
  have hsp : ¬ pc = 0 ∨ (pc = 0 ∧ ¬ g.Inodes ≤ (l.length : Int) + 1) ∨ (pc = 0 ∧ g.Inodes ≤ (l.length : Int) + 1) := by omega
  have wl : IntKind.i64.wrap ((l.length : Int) + 1) = (l.length : Int) + 1 := wr _ (by omega) (by omega)
  rcases hsp with g0 | ⟨g0, g1⟩ | ⟨g0, g1⟩
  · have g0b : (pc == 0) = false := by simpa using g0
    have g0c : (pc != 0) = true := by simpa using g0
    rw [if_neg (show ¬ (pc = 0 ∧ g.Inodes ≤ (l.length : Int) + 1) from fun h => g0 h.1), if_pos g0]
    refine DW.reg (by simp (maxSteps := 200000) (disch := first | omega | (simp; done) | fail) [wrapI, leT, leF, ltT, ltF, eqF, nleT, nleF, nltT, nltF, g0b, g0c]; rfl) ?_
    refine DW.condF (by simp (maxSteps := 200000) (disch := first | omega | (simp; done) | fail) [wrapI, leT, leF, ltT, ltF, eqF, nleT, nleF, nltT, nltF, g0b, g0c]) ?_
    refine DW.skip ?_
    refine DW.seq ?_
    refine DW.seq ?_
    refine DW.reg (by simp (maxSteps := 200000) (disch := first | omega | (simp; done) | fail) [wrapI, leT, leF, ltT, ltF, eqF, nleT, nleF, nltT, nltF, g0b, g0c]; rfl) ?_
    refine DW.condT (by simp (maxSteps := 200000) (disch := first | omega | (simp; done) | fail) [wrapI, leT, leF, ltT, ltF, eqF, nleT, nleF, nltT, nltF, g0b, g0c]) ?_
    refine DW.seq ?_
    refine DW.regs ?_
    refine RegO.opN 1 (by simp [g0b, g0c]; rfl) ?_
    refine RegO.step rfl (OpStep.callA rfl (by simp [g0b, g0c]; exact ⟨rfl, rfl⟩) (by simp [g0b, g0c]; rfl) (by exact same_spec l hl) (by simp) (by simp [g0b, g0c]; rfl)) ?_
    refine RegO.opN 1 (by simp [g0b, g0c]; rfl) ?_
    refine RegO.step rfl (OpStep.callA rfl (by simp [g0b, g0c]; exact ⟨rfl, rfl⟩) (by simp [g0b, g0c]; rfl) (by exact fails_spec pc) (by simp) (by simp [g0b, g0c]; rfl)) ?_
    refine RegO.opN 2 (by simp [g0b, g0c]; rfl) ?_
    refine RegO.nil ?_
    refine DW.ret ?_
    simp [Try.results20, failsR]
  · subst g0
    rw [if_neg (show ¬ ((0 : Int) = 0 ∧ g.Inodes ≤ (l.length : Int) + 1) from fun h => g1 h.2), if_neg (by simp)]
    refine DW.reg (by simp (maxSteps := 200000) (disch := first | omega | (simp; done) | fail) [wrapI, leT, leF, ltT, ltF, eqF, nleT, nleF, nltT, nltF, g1, wl]; rfl) ?_
    refine DW.condF (by simp (maxSteps := 200000) (disch := first | omega | (simp; done) | fail) [wrapI, leT, leF, ltT, ltF, eqF, nleT, nleF, nltT, nltF, g1, wl]) ?_
    refine DW.skip ?_
    refine DW.seq ?_
    refine DW.seq ?_
    refine DW.reg (by simp (maxSteps := 200000) (disch := first | omega | (simp; done) | fail) [wrapI, leT, leF, ltT, ltF, eqF, nleT, nleF, nltT, nltF, g1, wl]; rfl) ?_
    refine DW.condF (by simp (maxSteps := 200000) (disch := first | omega | (simp; done) | fail) [wrapI, leT, leF, ltT, ltF, eqF, nleT, nleF, nltT, nltF, g1, wl]) ?_
    refine DW.skip ?_
    refine DW.seq ?_
    refine DW.regs ?_
    refine RegO.opN 7 (by simp [g1, wl]; rfl) ?_
    refine RegO.step rfl (OpStep.callA rfl (by simp [g1, wl]; exact ⟨rfl, rfl⟩) (by simp [g1, wl]; rfl) (by exact putItem_spec l ⟨a.Path, a.Kind == 2, ByteArray.empty⟩ hl) (by simp) (by simp [g1, wl]; rfl)) ?_
    refine RegO.opN 3 (by simp [g1, wl]; rfl) ?_
    refine RegO.nil ?_
    refine DW.ghost (Ghost.wide 7 [4] 1 (by simp; rfl) (by simp)) ?_
    refine DW.ret ?_
    simp [Try.results20, failsR]
  · subst g0
    rw [if_pos (show ((0 : Int) = 0 ∧ g.Inodes ≤ (l.length : Int) + 1) from ⟨rfl, g1⟩), if_pos (by decide)]
    refine DW.reg (by simp (maxSteps := 200000) (disch := first | omega | (simp; done) | fail) [wrapI, leT, leF, ltT, ltF, eqF, nleT, nleF, nltT, nltF, g1, wl]; rfl) ?_
    refine DW.condT (by simp (maxSteps := 200000) (disch := first | omega | (simp; done) | fail) [wrapI, leT, leF, ltT, ltF, eqF, nleT, nleF, nltT, nltF, g1, wl]) ?_
    refine DW.reg (by simp (maxSteps := 200000) (disch := first | omega | (simp; done) | fail) [wrapI, leT, leF, ltT, ltF, eqF, nleT, nleF, nltT, nltF, g1, wl]; rfl) ?_
    refine DW.seq ?_
    refine DW.seq ?_
    refine DW.reg (by simp (maxSteps := 200000) (disch := first | omega | (simp; done) | fail) [wrapI, leT, leF, ltT, ltF, eqF, nleT, nleF, nltT, nltF, g1, wl]; rfl) ?_
    refine DW.condT (by simp (maxSteps := 200000) (disch := first | omega | (simp; done) | fail) [wrapI, leT, leF, ltT, ltF, eqF, nleT, nleF, nltT, nltF, g1, wl]) ?_
    refine DW.seq ?_
    refine DW.regs ?_
    refine RegO.opN 1 (by simp [g1, wl]; rfl) ?_
    refine RegO.step rfl (OpStep.callA rfl (by simp [g1, wl]; exact ⟨rfl, rfl⟩) (by simp [g1, wl]; rfl) (by exact same_spec l hl) (by simp) (by simp [g1, wl]; rfl)) ?_
    refine RegO.opN 1 (by simp [g1, wl]; rfl) ?_
    refine RegO.step rfl (OpStep.callA rfl (by simp [g1, wl]; exact ⟨rfl, rfl⟩) (by simp [g1, wl]; rfl) (by exact fails_spec 8) (by simp) (by simp [g1, wl]; rfl)) ?_
    refine RegO.opN 2 (by simp [g1, wl]; rfl) ?_
    refine RegO.nil ?_
    refine DW.ret ?_
    simp [Try.results20, failsR]
end Go.Proofs.Ytciieaidbiejmaa.DM
