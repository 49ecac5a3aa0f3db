import Derived.Test.YtjjdjkkhhcbogaaFW14
import Derived.Test.YtjjdjkkhhcbogaaDD
namespace Go.Proofs.Ytjjdjkkhhcbogaa.DM
set_option linter.unusedVariables false
set_option linter.unusedSimpArgs false
set_option maxRecDepth 4000
set_option maxHeartbeats 8000000
abbrev cellV (c : Cell) : List Value := [.int .i64 c.Line, .string c.Text, .bool c.Flushed]
def eqC (a b : Cell) : Bool := a.Line == b.Line && (a.Text == b.Text && (a.Flushed == b.Flushed && true))
theorem eqC_refl (a : Cell) : eqC a a = true := by
  have h : (a.Text == a.Text) = true := by first | exact beq_self_eq_true _ | (show (a.Text.data == a.Text.data) = true; simp)
  simp [eqC, h]
theorem eqCell_run (a b : Cell) (dp : Nat) (w : Go.World) : (Op.equalIn (dp + 2) 115 (.agg (cellV a).toArray) (.agg (cellV b).toArray)).run Try.prog w = .ok (eqC a b) w := by
  refine eqA_of Try.underlying115 (by kernel_rfl) ?_
  refine eqf_cons rfl (by rfl) (by rfl) (eqI_of Try.underlying3) ?_
  refine eqf_cons rfl (by rfl) (by rfl) (eqT_of Try.underlying9) ?_
  refine eqf_cons rfl (by rfl) (by rfl) (eqB_of Try.underlying4) ?_
  exact eqf_nil
theorem sameCells_spec (l : List Cell) (hl : l.length < 2 ^ 40) : Spec Try.prog 87 [ra l, ra l] [none] [db true] [ra l, ra l] := by
  refine Spec.intro Try.func87 rfl rfl Try.ntmps87 rfl (by simp) ?_
  refine DW.seq ?_
  refine DW.reg (by simp (maxSteps := 200000) (disch := first | omega | (simp; done) | fail) [wrapI, leT, leF, ltT, ltF, eqF, nleT, nleF, nltT, nltF]; rfl) ?_
  refine DW.seq ?_
  refine DW.seq ?_
  refine DW.reg (by simp (maxSteps := 200000) (disch := first | omega | (simp; done) | fail) [wrapI, leT, leF, ltT, ltF, eqF, nleT, nleF, nltT, nltF]; rfl) ?_
  refine DW.condF (by simp (maxSteps := 200000) (disch := first | omega | (simp; done) | fail) [wrapI, leT, leF, ltT, ltF, eqF, nleT, nleF, nltT, nltF]) ?_
  refine DW.skip ?_
  refine DW.seq ?_
  refine DW.seq ?_
  refine DW.reg (by simp (maxSteps := 200000) (disch := first | omega | (simp; done) | fail) [wrapI, leT, leF, ltT, ltF, eqF, nleT, nleF, nltT, nltF]; rfl) ?_
  refine DW.block ?_
  refine DW.loopS (α := Nat) (fun i => i ≤ l.length) (fun i => l.length - i) (fun i => [(5, vi i)]) (fun i => []) [(0, _), (1, _)] [] [] 0 (Nat.zero_le _) (by simp; exact ⟨rfl, rfl⟩) (by simp) (by simp) (by rfl) ?_
  intro i hi
  refine DW.seq ?_
  refine DW.seq ?_
  refine DW.reg (by simp (maxSteps := 200000) (disch := first | omega | (simp; done) | fail) [wrapI, leT, leF, ltT, ltF, eqF, nleT, nleF, nltT, nltF]; rfl) ?_
  refine DW.condB (by simp (maxSteps := 200000) (disch := first | omega | (simp; done) | fail) [wrapI, leT, leF, ltT, ltF, eqF, nleT, nleF, nltT, nltF]; exact rfl) (fun hc1 => ?_) (fun hc1 => ?_)
  · have hlt : i < l.length := by simpa using hc1
    have hlt' : (i : Int) < l.length := by omega
    have hd := rR_drop_Cell l i hlt
    have hw := wr ((i : Int) + 1) (by omega) (by omega)
    generalize l[i] = c at hd
    have hcc := eqC_refl c
    refine DW.skip ?_
    refine DW.seq ?_
    refine DW.block ?_
    refine DW.seq ?_
    refine DW.drawn mixed (by kernel_rfl) ?_
    refine RegD.addN 4 (by simp [hlt', hd, hw]; exact ⟨rfl, rfl⟩) ?_
    refine RegD.addN 4 (by simp [hlt', hd, hw]; exact ⟨rfl, rfl⟩) ?_
    refine RegD.cert (Cert.neS (cellV c) (cellV c) rfl (by simp) rfl (by decide) (by simp) (by simp) (by kernel_rfl) (fun w => eqCell_run _ _ 9998 w)) ?_
    refine RegD.nil ⟨by kernel_rfl, ?_⟩
    refine DW.condF (by simp (maxSteps := 200000) (disch := first | omega | (simp; done) | fail) [wrapI, leT, leF, ltT, ltF, eqF, nleT, nleF, nltT, nltF, hlt', hd, hw, hcc]) ?_
    refine DW.skip ?_
    refine DW.reg (by simp (maxSteps := 200000) (disch := first | omega | (simp; done) | fail) [wrapI, leT, leF, ltT, ltF, eqF, nleT, nleF, nltT, nltF, hlt', hd, hw]; rfl) ?_
    exact ⟨i + 1, hlt, by omega, by simp [hw], by simp, by simp, by rfl⟩
  · refine DW.exit ?_
    refine DW.seq ?_
    refine DW.reg (by simp (maxSteps := 200000) (disch := first | omega | (simp; done) | fail) [wrapI, leT, leF, ltT, ltF, eqF, nleT, nleF, nltT, nltF]; rfl) ?_
    refine DW.ret ?_
    simp [Try.results87]
theorem sameMemory_spec (m : Memory) (hl : m.Cells.length < 2 ^ 40) : Spec Try.prog 28 [raMemory m, raMemory m] [none] [db true] [raMemory m, raMemory m] := by
  refine Spec.intro Try.func28 rfl rfl Try.ntmps28 rfl (by simp) ?_
  refine DW.seq ?_
  refine DW.reg (by simp (maxSteps := 200000) (disch := first | omega | (simp; done) | fail) [wrapI, leT, leF, ltT, ltF, eqF, nleT, nleF, nltT, nltF]; rfl) ?_
  refine DW.seq ?_
  refine DW.regs ?_
  refine RegO.opN 10 (by simp (maxSteps := 200000) (disch := first | omega | (simp; done) | fail) [wrapI, leT, leF, ltT, ltF, eqF, nleT, nleF, nltT, nltF]; rfl) ?_
  refine RegO.stepT (by simp (maxSteps := 200000) (disch := first | omega | (simp; done) | fail) [wrapI, leT, leF, ltT, ltF, eqF, nleT, nleF, nltT, nltF]) (OpStep.callA rfl (by simp (maxSteps := 200000) (disch := first | omega | (simp; done) | fail) [wrapI, leT, leF, ltT, ltF, eqF, nleT, nleF, nltT, nltF]; exact ⟨rfl, rfl⟩) (by simp (maxSteps := 200000) (disch := first | omega | (simp; done) | fail) [wrapI, leT, leF, ltT, ltF, eqF, nleT, nleF, nltT, nltF]; rfl) (by exact sameCells_spec m.Cells hl) (by simp) (by simp (maxSteps := 200000) (disch := first | omega | (simp; done) | fail) [wrapI, leT, leF, ltT, ltF, eqF, nleT, nleF, nltT, nltF]; rfl)) ?_
  refine RegO.opN 2 (by simp (maxSteps := 200000) (disch := first | omega | (simp; done) | fail) [wrapI, leT, leF, ltT, ltF, eqF, nleT, nleF, nltT, nltF]; rfl) ?_
  refine RegO.nil ?_
  refine DW.ret ?_
  simp [Try.results28]
end Go.Proofs.Ytjjdjkkhhcbogaa.DM
