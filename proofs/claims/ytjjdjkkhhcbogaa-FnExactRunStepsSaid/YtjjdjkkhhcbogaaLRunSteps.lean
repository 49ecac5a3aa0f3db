import Derived.Test.YtjjdjkkhhcbogaaFRunSz
namespace Go.Proofs.Ytjjdjkkhhcbogaa.DM
set_option linter.unusedVariables false
set_option linter.unusedSimpArgs false
set_option maxRecDepth 4000
set_option maxHeartbeats 8000000
theorem FnExactRunSteps_spec (m : Memory) (L : List Step) (ho0 : Row.ok 281474976710656 m) (ho1 : okL 281474976710656 L) : Spec Try.prog 4 [raMemory m, ra L] [none] [db true] [raMemory m, ra L] := by
  refine Spec.intro Try.func4 rfl rfl Try.ntmps4 rfl (by simp) ?_
  refine DW.seq ?_
  refine DW.reg (by simp; rfl) ?_
  refine DW.norm [(1, _), (2, _)] [(2, _)] [] (by simp; exact ⟨rfl, rfl⟩) (by simp; rfl) (by simp) (by rfl) ?_
  refine DW.seq ?_
  refine DW.reg (by simp; rfl) ?_
  refine DW.norm [(1, _), (2, _), (5, _)] [(2, _)] [] (by simp; exact ⟨rfl, rfl, rfl⟩) (by simp; rfl) (by simp) (by rfl) ?_
  refine DW.seq ?_
  refine DW.regs ?_
  refine RegO.opN 2 (by simp; rfl) ?_
  refine RegO.step rfl (OpStep.callA rfl (by simp; exact ⟨rfl, rfl⟩) (by simp; rfl) (by exact szMemory_spec _ _ (by omega) (by omega) ho0) (by simp) (by simp; rfl)) ?_
  refine RegO.opN 1 (by simp; rfl) ?_
  refine RegO.nil ?_
  refine DW.norm [(1, _), (2, _), (5, _)] [(2, _)] [] (by simp; exact ⟨rfl, rfl, rfl⟩) (by simp; rfl) (by simp) (by rfl) ?_
  refine DW.seq ?_
  refine DW.seq ?_
  refine DW.reg (by simp; rfl) ?_
  refine DW.norm [(1, _), (2, _), (5, _), (18, _)] [(2, _)] [] (by simp; exact ⟨rfl, rfl, rfl, rfl⟩) (by simp; rfl) (by simp) (by rfl) ?_
  refine DW.condB (by simp; exact rfl) (fun hc0 => ?_) (fun hc0 => ?_)
  · have hn0 : 1048576 - (Row.sz m : Int) < 0 := by simpa using hc0
    refine DW.seq ?_
    refine DW.reg (by simp; rfl) ?_
    refine DW.norm [(4, _)] [] [] (by simp; rfl) (by simp) (by simp) (by rfl) ?_
    refine DW.ret ?_
    simp [Try.results4]
  · have hn0 : ¬ (1048576 - (Row.sz m : Int) < 0) := by simpa using hc0
    have q0 : szr (1048576 - (Row.sz m : Int)) = 1048576 - (Row.sz m : Int) := szr_pos (by omega)
    refine DW.skip ?_
    refine DW.seq ?_
    refine DW.regs ?_
    refine RegO.opN 2 (by simp [q0]; rfl) ?_
    refine RegO.step rfl (OpStep.callA rfl (by simp [q0]; exact ⟨rfl, rfl⟩) (by simp [q0]; rfl) (by exact szStepS_spec _ _ (by omega) (by omega) ho1) (by simp) (by simp [q0]; rfl)) ?_
    refine RegO.opN 1 (by simp [q0]; rfl) ?_
    refine RegO.nil ?_
    refine DW.norm [(1, _), (2, _), (5, _)] [(2, _)] [] (by simp [q0]; exact ⟨rfl, rfl, rfl⟩) (by simp [q0]; rfl) (by simp [q0]) (by rfl) ?_
    refine DW.seq ?_
    refine DW.seq ?_
    refine DW.reg (by simp [q0]; rfl) ?_
    refine DW.norm [(1, _), (2, _), (23, _)] [(2, _)] [] (by simp [q0]; exact ⟨rfl, rfl, rfl⟩) (by simp [q0]; rfl) (by simp [q0]) (by rfl) ?_
    refine DW.condB (by simp [q0]; exact rfl) (fun hc1 => ?_) (fun hc1 => ?_)
    · have hn1 : 1048576 - (Row.sz m : Int) - (szL L : Int) < 0 := by simpa using hc1
      refine DW.seq ?_
      refine DW.reg (by simp [q0]; rfl) ?_
      refine DW.norm [(4, _)] [] [] (by simp [q0]; rfl) (by simp [q0]) (by simp [q0]) (by rfl) ?_
      refine DW.ret ?_
      simp [Try.results4]
    · have hn1 : ¬ (1048576 - (Row.sz m : Int) - (szL L : Int) < 0) := by simpa using hc1
      have q1 : szr (1048576 - (Row.sz m : Int) - (szL L : Int)) = 1048576 - (Row.sz m : Int) - (szL L : Int) := szr_pos (by omega)
      have h0 : Row.sz m ≤ 2 ^ 36 := by omega
      have hz := Memory_sz m
      have hcl := szL_len m.Cells
      have hk : m.Kept.size < 2 ^ 40 := by omega
      have c0 : Memory.ctT m ≤ 40 * Row.sz m := Memory_clT m
      have h1 : szL L ≤ 2 ^ 36 := by omega
      have hll := szL_len L
      have hl : m.Cells.length + L.length < 2 ^ 40 := by omega
      have hr0 := stepsM_sz m L
      have hr : Row.sz (stepsM m L) ≤ 2 ^ 36 := by omega
      have c1 : Memory.ctT (stepsM m L) ≤ 40 * Row.sz (stepsM m L) := Memory_clT (stepsM m L)
      have c2 := ctL_le L
      have z0 : ¬ (1 + (Memory.ctT m : Int) + (ctL L : Int) < 0) := by omega
      have z1 : ¬ (1 + (Memory.ctT (stepsM m L) : Int) < 0) := by omega
      refine DW.skip ?_
      refine DW.seq ?_
      refine DW.regs ?_
      refine RegO.opN 1 (by simp [q0, q1, z0, z1]; rfl) ?_
      refine RegO.step rfl (OpStep.callA rfl (by simp [q0, q1, z0, z1]; exact ⟨rfl, rfl⟩) (by simp [q0, q1, z0, z1]; rfl) (by exact toMemory_spec _ (by first | assumption | simp [Row.sz])) (by simp) (by simp [q0, q1, z0, z1]; rfl)) ?_
      refine RegO.opN 1 (by simp [q0, q1, z0, z1]; rfl) ?_
      refine RegO.step rfl (OpStep.callA rfl (by simp [q0, q1, z0, z1]; exact ⟨rfl, rfl⟩) (by simp [q0, q1, z0, z1]; rfl) (by exact toStepS_spec _ (by first | assumption | simp [Row.sz])) (by simp) (by simp [q0, q1, z0, z1]; rfl)) ?_
      refine RegO.step rfl (OpStep.callA rfl (by simp [q0, q1, z0, z1]; exact ⟨rfl, rfl⟩) (by simp [q0, q1, z0, z1]; rfl) (by exact specSteps_spec m.Kept m.Cells L hk hl) (by simp) (by simp [q0, q1, z0, z1]; rfl)) ?_
      refine RegO.opN 2 (by simp [q0, q1, z0, z1]; rfl) ?_
      refine RegO.nil ?_
      refine DW.norm [(1, _), (2, _), (6, _)] [(2, _), (6, _)] [] (by simp [q0, q1, z0, z1]; exact ⟨rfl, rfl, rfl⟩) (by simp [q0, q1, z0, z1]; exact ⟨rfl, rfl⟩) (by simp [q0, q1, z0, z1]) (by rfl) ?_
      refine DW.seq ?_
      refine DW.regs ?_
      refine RegO.opN 1 (by simp [q0, q1, z0, z1]; rfl) ?_
      refine RegO.step rfl (OpStep.callA rfl (by simp [q0, q1, z0, z1]; exact ⟨rfl, rfl⟩) (by simp [q0, q1, z0, z1]; rfl) (by exact toMemory_spec _ (by first | assumption | simp [Row.sz])) (by simp) (by simp [q0, q1, z0, z1]; rfl)) ?_
      refine RegO.opN 2 (by simp [q0, q1, z0, z1]; rfl) ?_
      refine RegO.nil ?_
      refine DW.norm [(1, _), (2, _), (6, _), (7, _)] [(2, _), (6, _), (7, _)] [] (by simp [q0, q1, z0, z1]; exact ⟨rfl, rfl, rfl, rfl⟩) (by simp [q0, q1, z0, z1]; exact ⟨rfl, rfl, rfl⟩) (by simp [q0, q1, z0, z1]) (by rfl) ?_
      refine DW.seq ?_
      refine DW.regs ?_
      refine RegO.opN 1 (by simp [q0, q1, z0, z1]; rfl) ?_
      refine RegO.step rfl (OpStep.callA rfl (by simp [q0, q1, z0, z1]; exact ⟨rfl, rfl⟩) (by simp [q0, q1, z0, z1]; rfl) (by exact toStepS_spec _ (by first | assumption | simp [Row.sz])) (by simp) (by simp [q0, q1, z0, z1]; rfl)) ?_
      refine RegO.opN 1 (by simp [q0, q1, z0, z1]; rfl) ?_
      refine RegO.nil ?_
      refine DW.norm [(1, _), (2, _), (6, _), (7, _), (8, _)] [(2, _), (6, _), (7, _), (32, _)] [] (by simp [q0, q1, z0, z1]; exact ⟨rfl, rfl, rfl, rfl, rfl⟩) (by simp [q0, q1, z0, z1]; exact ⟨rfl, rfl, rfl, rfl⟩) (by simp [q0, q1, z0, z1]) (by rfl) ?_
      refine DW.seq ?_
      refine DW.regs ?_
      refine RegO.opN 2 (by simp [q0, q1, z0, z1]; rfl) ?_
      refine RegO.step rfl (OpStep.callA rfl (by simp [q0, q1, z0, z1]; exact ⟨rfl, rfl⟩) (by simp [q0, q1, z0, z1]; rfl) (by exact runSteps_spec m.Kept m.Cells L hk hl) (by simp) (by simp [q0, q1, z0, z1]; rfl)) ?_
      refine RegO.opN 2 (by simp [q0, q1, z0, z1]; rfl) ?_
      refine RegO.nil ?_
      refine DW.norm [(1, _), (2, _), (6, _), (7, _), (8, _), (9, _)] [(2, _), (6, _), (7, _), (9, _), (32, _)] [] (by simp [q0, q1, z0, z1]; exact ⟨rfl, rfl, rfl, rfl, rfl, rfl⟩) (by simp [q0, q1, z0, z1]; exact ⟨rfl, rfl, rfl, rfl, rfl⟩) (by simp [q0, q1, z0, z1]) (by rfl) ?_
      refine DW.seq ?_
      refine DW.seq ?_
      refine DW.regs ?_
      refine RegO.opN 2 (by simp [q0, q1, z0, z1]; rfl) ?_
      refine RegO.step rfl (OpStep.callA rfl (by simp [q0, q1, z0, z1]; exact ⟨rfl, rfl⟩) (by simp [q0, q1, z0, z1]; rfl) (by exact eqMemory_spec _ (by first | assumption | simp [Row.sz])) (by simp) (by simp [q0, q1, z0, z1]; rfl)) ?_
      refine RegO.opN 1 (by simp [q0, q1, z0, z1]; rfl) ?_
      refine RegO.nil ?_
      refine DW.norm [(1, _), (2, _), (6, _), (7, _), (8, _), (9, _), (39, _)] [(2, _), (6, _), (7, _), (9, _), (32, _)] [] (by simp [q0, q1, z0, z1]; exact ⟨rfl, rfl, rfl, rfl, rfl, rfl, rfl⟩) (by simp [q0, q1, z0, z1]; exact ⟨rfl, rfl, rfl, rfl, rfl⟩) (by simp [q0, q1, z0, z1]) (by rfl) ?_
      refine DW.condF (by simp [q0, q1, z0, z1]) ?_
      refine DW.skip ?_
      refine DW.seq ?_
      refine DW.seq ?_
      refine DW.drawn mixed (by kernel_rfl) ?_
      refine RegD.addN 2 (by simp [q0, q1, z0, z1]; first | exact ⟨rfl, rfl⟩ | rfl) ?_
      refine RegD.cert (Cert.callHA rfl (by simp) rfl (by decide) (by simp [q0, q1, z0, z1]; exact ⟨rfl, rfl⟩) (by simp [q0, q1, z0, z1]; rfl) (by exact toMemory_spec _ (by first | assumption | simp [Row.sz])) rfl (by simp) (by simp) (by simp; rfl) rfl) ?_
      refine RegD.cert (Cert.callA rfl (by simp) rfl (by decide) (by simp [q0, q1, z0, z1]; exact ⟨rfl, rfl⟩) (by simp [q0, q1, z0, z1]; rfl) (by exact eqMemory_spec _ (by first | assumption | simp [Row.sz])) rfl (by simp) (by simp; rfl) rfl) ?_
      refine RegD.addN 1 (by simp [q0, q1, z0, z1]; first | exact ⟨rfl, rfl⟩ | rfl) ?_
      refine RegD.nil ⟨by kernel_rfl, ?_⟩
      refine DW.norm [(1, _), (2, _), (6, _), (7, _), (8, _), (9, _), (44, _)] [(2, _), (6, _), (7, _), (9, _), (32, _)] [] (by simp [q0, q1, z0, z1]; exact ⟨rfl, rfl, rfl, rfl, rfl, rfl, rfl⟩) (by simp [q0, q1, z0, z1]; exact ⟨rfl, rfl, rfl, rfl, rfl⟩) (by simp [q0, q1, z0, z1]) (by rfl) ?_
      refine DW.condF (by simp [q0, q1, z0, z1]) ?_
      refine DW.skip ?_
      refine DW.seq ?_
      refine DW.seq ?_
      refine DW.regs ?_
      refine RegO.opN 2 (by simp [q0, q1, z0, z1]; rfl) ?_
      refine RegO.step rfl (OpStep.callA rfl (by simp [q0, q1, z0, z1]; exact ⟨rfl, rfl⟩) (by simp [q0, q1, z0, z1]; rfl) (by exact toStepS_spec _ (by first | assumption | simp [Row.sz])) (by simp) (by simp [q0, q1, z0, z1]; rfl)) ?_
      refine RegO.step rfl (OpStep.callA rfl (by simp [q0, q1, z0, z1]; exact ⟨rfl, rfl⟩) (by simp [q0, q1, z0, z1]; rfl) (by exact eqStepS_spec _ (by first | assumption | simp [Row.sz])) (by simp) (by simp [q0, q1, z0, z1]; rfl)) ?_
      refine RegO.opN 1 (by simp [q0, q1, z0, z1]; rfl) ?_
      refine RegO.nil ?_
      refine DW.norm [(1, _), (2, _), (6, _), (7, _), (8, _), (9, _), (49, _)] [(2, _), (6, _), (7, _), (9, _), (32, _)] [] (by simp [q0, q1, z0, z1]; exact ⟨rfl, rfl, rfl, rfl, rfl, rfl, rfl⟩) (by simp [q0, q1, z0, z1]; exact ⟨rfl, rfl, rfl, rfl, rfl⟩) (by simp [q0, q1, z0, z1]) (by rfl) ?_
      refine DW.condF (by simp [q0, q1, z0, z1]) ?_
      refine DW.skip ?_
      refine DW.seq ?_
      refine DW.reg (by simp [q0, q1, z0, z1]; rfl) ?_
      refine DW.norm [(1, _), (2, _), (6, _), (7, _), (8, _), (9, _), (10, _)] [(2, _), (6, _), (7, _), (9, _), (32, _)] [] (by simp [q0, q1, z0, z1]; exact ⟨rfl, rfl, rfl, rfl, rfl, rfl, rfl⟩) (by simp [q0, q1, z0, z1]; exact ⟨rfl, rfl, rfl, rfl, rfl⟩) (by simp [q0, q1, z0, z1]) (by rfl) ?_
      refine DW.seq ?_
      refine DW.regs ?_
      refine RegO.opN 2 (by simp [q0, q1, z0, z1]; rfl) ?_
      refine RegO.step rfl (s1 := St [(1, _), (2, _), (6, _), (8, _), (9, _), (10, _), (52, _)] [(2, _), (6, _), (9, _), (32, _)] []) (by rcases nil_or_pos2 m.Cells with ⟨m0, n0, p0⟩ | ⟨m0, n0, p0⟩ <;> exact OpStep.st (OpStep.callL (io := 0) rfl (by simp [q0, q1, z0, z1, m0, n0, p0, Memory.mkT]; rfl) (markMemory_spec m (1) (by omega) (by omega) (by assumption)) (by rfl) (by rfl) (by rfl) (by rfl) (by simp [lendL, FS.lend, q0, q1, z0, z1, m0, n0, p0, Memory.mkT]; exact ⟨rfl, rfl⟩) (by simp [apartP]) (by simp) (by simp [q0, q1, z0, z1, m0, n0, p0, Memory.mkT]; rfl) (by simp [rosOk]) (by simp) (by simp [backFS, hBack, pzsC, pzS, paCells, PC.tree, q0, q1, z0, z1, m0, n0, p0, Memory.mkT]; rfl)) (by first | (simp [q0, q1, z0, z1, m0, n0, p0, Memory.mkT]; done) | (simp [q0, q1, z0, z1, m0, n0, p0, Memory.mkT]; exact ⟨rfl, rfl, rfl, rfl, rfl, rfl, rfl⟩)) (by first | (simp [q0, q1, z0, z1, m0, n0, p0, Memory.mkT]; done) | (simp [q0, q1, z0, z1, m0, n0, p0, Memory.mkT]; exact ⟨rfl, rfl, rfl, rfl⟩)) (by simp) (by rfl)) ?_
      refine RegO.opN 1 (by simp [q0, q1, z0, z1]; rfl) ?_
      refine RegO.nil ?_
      refine DW.norm [(1, _), (2, _), (6, _), (8, _), (9, _), (10, _)] [(2, _), (6, _), (9, _), (32, _)] [] (by simp [q0, q1, z0, z1]; exact ⟨rfl, rfl, rfl, rfl, rfl, rfl⟩) (by simp [q0, q1, z0, z1]; exact ⟨rfl, rfl, rfl, rfl⟩) (by simp [q0, q1, z0, z1]) (by rfl) ?_
      refine DW.seq ?_
      refine DW.regs ?_
      refine RegO.opN 2 (by simp [q0, q1, z0, z1]; rfl) ?_
      refine RegO.step rfl (OpStep.callL (io := 0) rfl (by simp [q0, q1, z0, z1]; rfl) (markStepS_spec L (1 + (Memory.ctT m : Int)) (by omega) (by omega) (by assumption)) (by rfl) (by rfl) (by rfl) (by rfl) (by simp [lendL, FS.lend, q0, q1, z0, z1]; exact ⟨rfl, rfl⟩) (by simp [apartP]) (by simp) (by simp [q0, q1, z0, z1]; rfl) (by simp [rosOk]) (by simp) (by simp [backFS, hBack, pzsC, pzS, paCells, PC.tree, q0, q1, z0, z1]; rfl)) ?_
      refine RegO.opN 1 (by simp [q0, q1, z0, z1]; rfl) ?_
      refine RegO.nil ?_
      refine DW.norm [(1, _), (2, _), (6, _), (9, _), (10, _)] [(2, _), (6, _), (9, _)] [] (by simp [q0, q1, z0, z1]; exact ⟨rfl, rfl, rfl, rfl, rfl⟩) (by simp [q0, q1, z0, z1]; exact ⟨rfl, rfl, rfl⟩) (by simp [q0, q1, z0, z1]) (by rfl) ?_
      refine DW.seq ?_
      refine DW.seq ?_
      refine DW.regs ?_
      refine RegO.opN 5 (by simp [q0, q1, z0, z1]; rfl) ?_
      refine RegO.guard (b := true) (by simp [q0, q1, z0, z1]) (fun _ => ⟨_, (OpStep.callA rfl (by simp [q0, q1, z0, z1]; exact ⟨rfl, rfl⟩) (by simp [q0, q1, z0, z1]; rfl) (by exact eqMemory_spec _ (by first | assumption | simp [Row.sz])) (by simp) (by simp [q0, q1, z0, z1]; rfl)).toE, fun _ e => e ▸ ?_⟩) (fun h => by cases h)
      refine RegO.opN 2 (by simp [q0, q1, z0, z1]; rfl) ?_
      refine RegO.nil ?_
      refine DW.norm [(1, _), (2, _), (6, _), (9, _), (63, _)] [(2, _), (6, _), (9, _)] [] (by simp [q0, q1, z0, z1]; exact ⟨rfl, rfl, rfl, rfl, rfl⟩) (by simp [q0, q1, z0, z1]; exact ⟨rfl, rfl, rfl⟩) (by simp [q0, q1, z0, z1]) (by rfl) ?_
      refine DW.condF (by simp [q0, q1, z0, z1]) ?_
      refine DW.skip ?_
      refine DW.seq ?_
      refine DW.reg (by simp [q0, q1, z0, z1]; rfl) ?_
      refine DW.norm [(1, _), (2, _), (6, _), (9, _), (11, _)] [(2, _), (6, _), (9, _)] [] (by simp [q0, q1, z0, z1]; exact ⟨rfl, rfl, rfl, rfl, rfl⟩) (by simp [q0, q1, z0, z1]; exact ⟨rfl, rfl, rfl⟩) (by simp [q0, q1, z0, z1]) (by rfl) ?_
      refine DW.seq ?_
      refine DW.regs ?_
      refine RegO.opN 2 (by simp [q0, q1, z0, z1]; rfl) ?_
      refine RegO.step rfl (s1 := St [(1, _), (2, _), (6, _), (9, _), (11, _), (66, _)] [(2, _), (6, _), (9, _)] []) (by rcases nil_or_pos2 (stepsM m L).Cells with ⟨m0, n0, p0⟩ | ⟨m0, n0, p0⟩ <;> exact OpStep.st (OpStep.callL (io := 0) rfl (by simp [q0, q1, z0, z1, m0, n0, p0, Memory.mkT]; rfl) (markMemory_spec (stepsM m L) (1) (by omega) (by omega) (by assumption)) (by rfl) (by rfl) (by rfl) (by rfl) (by simp [lendL, FS.lend, q0, q1, z0, z1, m0, n0, p0, Memory.mkT]; exact ⟨rfl, rfl⟩) (by simp [apartP]) (by simp) (by simp [q0, q1, z0, z1, m0, n0, p0, Memory.mkT]; rfl) (by simp [rosOk]) (by simp) (by simp [backFS, hBack, pzsC, pzS, paCells, PC.tree, q0, q1, z0, z1, m0, n0, p0, Memory.mkT]; rfl)) (by first | (simp [q0, q1, z0, z1, m0, n0, p0, Memory.mkT]; done) | (simp [q0, q1, z0, z1, m0, n0, p0, Memory.mkT]; exact ⟨rfl, rfl, rfl, rfl, rfl, rfl⟩)) (by first | (simp [q0, q1, z0, z1, m0, n0, p0, Memory.mkT]; done) | (simp [q0, q1, z0, z1, m0, n0, p0, Memory.mkT]; exact ⟨rfl, rfl, rfl⟩)) (by simp) (by rfl)) ?_
      refine RegO.opN 1 (by simp [q0, q1, z0, z1]; rfl) ?_
      refine RegO.nil ?_
      refine DW.norm [(1, _), (2, _), (6, _), (9, _), (11, _)] [(2, _), (6, _), (9, _)] [] (by simp [q0, q1, z0, z1]; exact ⟨rfl, rfl, rfl, rfl, rfl⟩) (by simp [q0, q1, z0, z1]; exact ⟨rfl, rfl, rfl⟩) (by simp [q0, q1, z0, z1]) (by rfl) ?_
      refine DW.seq ?_
      refine DW.reg (by simp [q0, q1, z0, z1]; rfl) ?_
      refine DW.norm [(1, _), (2, _), (6, _), (9, _), (11, _), (12, _)] [(2, _), (6, _), (9, _)] [] (by simp [q0, q1, z0, z1]; exact ⟨rfl, rfl, rfl, rfl, rfl, rfl⟩) (by simp [q0, q1, z0, z1]; exact ⟨rfl, rfl, rfl⟩) (by simp [q0, q1, z0, z1]) (by rfl) ?_
      refine DW.seq ?_
      refine DW.regs ?_
      refine RegO.opN 2 (by simp [q0, q1, z0, z1]; rfl) ?_
      refine RegO.step rfl (OpStep.callA rfl (by simp [q0, q1, z0, z1]; exact ⟨rfl, rfl⟩) (by simp [q0, q1, z0, z1]; rfl) (by exact (by have h := heldMemory_spec (stepsM m L) (1) (by omega) (by omega) (by assumption); simp only [raMemory, Memory.mkT, mkL_len] at h; exact h)) (by simp) (by simp [q0, q1, z0, z1]; rfl)) ?_
      refine RegO.opN 1 (by simp [q0, q1, z0, z1]; rfl) ?_
      refine RegO.nil ?_
      refine DW.norm [(1, _), (2, _), (6, _), (9, _), (11, _), (12, _)] [(2, _), (6, _), (9, _)] [] (by simp [q0, q1, z0, z1]; exact ⟨rfl, rfl, rfl, rfl, rfl, rfl⟩) (by simp [q0, q1, z0, z1]; exact ⟨rfl, rfl, rfl⟩) (by simp [q0, q1, z0, z1]) (by rfl) ?_
      refine DW.seq ?_
      refine DW.seq ?_
      refine DW.reg (by simp [q0, q1, z0, z1]; rfl) ?_
      refine DW.norm [(1, _), (2, _), (6, _), (9, _), (11, _), (12, _), (71, _)] [(2, _), (6, _), (9, _)] [] (by simp [q0, q1, z0, z1]; exact ⟨rfl, rfl, rfl, rfl, rfl, rfl, rfl⟩) (by simp [q0, q1, z0, z1]; exact ⟨rfl, rfl, rfl⟩) (by simp [q0, q1, z0, z1]) (by rfl) ?_
      refine DW.condF (by simp [q0, q1, z0, z1]) ?_
      refine DW.skip ?_
      refine DW.seq ?_
      refine DW.seq ?_
      refine DW.reg (by simp [q0, q1, z0, z1]; rfl) ?_
      refine DW.norm [(1, _), (2, _), (6, _), (9, _), (11, _), (74, _)] [(2, _), (6, _), (9, _)] [] (by simp [q0, q1, z0, z1]; exact ⟨rfl, rfl, rfl, rfl, rfl, rfl⟩) (by simp [q0, q1, z0, z1]; exact ⟨rfl, rfl, rfl⟩) (by simp [q0, q1, z0, z1]) (by rfl) ?_
      refine DW.condF (by simp [q0, q1, z0, z1]) ?_
      refine DW.skip ?_
      refine DW.seq ?_
      refine DW.regs ?_
      refine RegO.opN 1 (by simp [q0, q1, z0, z1]; rfl) ?_
      refine RegO.step rfl (OpStep.callA rfl (by simp [q0, q1, z0, z1]; exact ⟨rfl, rfl⟩) (by simp [q0, q1, z0, z1]; rfl) (by exact toMemory_spec _ (by first | assumption | simp [Row.sz])) (by simp) (by simp [q0, q1, z0, z1]; rfl)) ?_
      refine RegO.opN 1 (by simp [q0, q1, z0, z1]; rfl) ?_
      refine RegO.step rfl (OpStep.callA rfl (by simp [q0, q1, z0, z1]; exact ⟨rfl, rfl⟩) (by simp [q0, q1, z0, z1]; rfl) (by exact toStepS_spec _ (by first | assumption | simp [Row.sz])) (by simp) (by simp [q0, q1, z0, z1]; rfl)) ?_
      refine RegO.step rfl (OpStep.callA rfl (by simp [q0, q1, z0, z1]; exact ⟨rfl, rfl⟩) (by simp [q0, q1, z0, z1]; rfl) (by exact runSteps_spec m.Kept m.Cells L hk hl) (by simp) (by simp [q0, q1, z0, z1]; rfl)) ?_
      refine RegO.opN 2 (by simp [q0, q1, z0, z1]; rfl) ?_
      refine RegO.nil ?_
      refine DW.norm [(6, _), (9, _), (11, _), (13, _)] [(6, _), (9, _), (13, _)] [] (by simp [q0, q1, z0, z1]; exact ⟨rfl, rfl, rfl, rfl⟩) (by simp [q0, q1, z0, z1]; exact ⟨rfl, rfl, rfl⟩) (by simp [q0, q1, z0, z1]) (by rfl) ?_
      refine DW.seq ?_
      refine DW.seq ?_
      refine DW.regs ?_
      refine RegO.opN 2 (by simp [q0, q1, z0, z1]; rfl) ?_
      refine RegO.step rfl (OpStep.callA rfl (by simp [q0, q1, z0, z1]; exact ⟨rfl, rfl⟩) (by simp [q0, q1, z0, z1]; rfl) (by exact eqMemory_spec _ (by first | assumption | simp [Row.sz])) (by simp) (by simp [q0, q1, z0, z1]; rfl)) ?_
      refine RegO.opN 1 (by simp [q0, q1, z0, z1]; rfl) ?_
      refine RegO.nil ?_
      refine DW.norm [(9, _), (11, _), (83, _)] [(9, _)] [] (by simp [q0, q1, z0, z1]; exact ⟨rfl, rfl, rfl⟩) (by simp [q0, q1, z0, z1]; rfl) (by simp [q0, q1, z0, z1]) (by rfl) ?_
      refine DW.condF (by simp [q0, q1, z0, z1]) ?_
      refine DW.skip ?_
      refine DW.seq ?_
      refine DW.reg (by simp [q0, q1, z0, z1]; rfl) ?_
      refine DW.norm [(9, _), (11, _), (12, _)] [(9, _)] [] (by simp [q0, q1, z0, z1]; exact ⟨rfl, rfl, rfl⟩) (by simp [q0, q1, z0, z1]; rfl) (by simp [q0, q1, z0, z1]) (by rfl) ?_
      refine DW.seq ?_
      refine DW.regs ?_
      refine RegO.opN 2 (by simp [q0, q1, z0, z1]; rfl) ?_
      refine RegO.step rfl (OpStep.callA rfl (by simp [q0, q1, z0, z1]; exact ⟨rfl, rfl⟩) (by simp [q0, q1, z0, z1]; rfl) (by exact (by have h := heldMemory_spec (stepsM m L) (1) (by omega) (by omega) (by assumption); simp only [raMemory, Memory.mkT, mkL_len] at h; exact h)) (by simp) (by simp [q0, q1, z0, z1]; rfl)) ?_
      refine RegO.opN 1 (by simp [q0, q1, z0, z1]; rfl) ?_
      refine RegO.nil ?_
      refine DW.norm [(11, _), (12, _)] [] [] (by simp [q0, q1, z0, z1]; exact ⟨rfl, rfl⟩) (by simp [q0, q1, z0, z1]) (by simp [q0, q1, z0, z1]) (by rfl) ?_
      refine DW.seq ?_
      refine DW.seq ?_
      refine DW.reg (by simp [q0, q1, z0, z1]; rfl) ?_
      refine DW.norm [(11, _), (12, _), (88, _)] [] [] (by simp [q0, q1, z0, z1]; exact ⟨rfl, rfl, rfl⟩) (by simp [q0, q1, z0, z1]) (by simp [q0, q1, z0, z1]) (by rfl) ?_
      refine DW.condF (by simp [q0, q1, z0, z1]) ?_
      refine DW.skip ?_
      refine DW.seq ?_
      refine DW.seq ?_
      refine DW.reg (by simp [q0, q1, z0, z1]; rfl) ?_
      refine DW.norm [(91, _)] [] [] (by simp [q0, q1, z0, z1]; rfl) (by simp [q0, q1, z0, z1]) (by simp [q0, q1, z0, z1]) (by rfl) ?_
      refine DW.condF (by simp [q0, q1, z0, z1]) ?_
      refine DW.skip ?_
      refine DW.seq ?_
      refine DW.reg (by simp [q0, q1, z0, z1]; rfl) ?_
      refine DW.norm [(4, _)] [] [] (by simp [q0, q1, z0, z1]; rfl) (by simp [q0, q1, z0, z1]) (by simp [q0, q1, z0, z1]) (by rfl) ?_
      refine DW.ret ?_
      simp [Try.results4]
end Go.Proofs.Ytjjdjkkhhcbogaa.DM
