import Derived.Test.YtjjdjkkhhcbogaaFRunSz
namespace Go.Proofs.Ytjjdjkkhhcbogaa.DM
set_option linter.unusedVariables false
set_option linter.unusedSimpArgs false
set_option maxRecDepth 4000
set_option maxHeartbeats 8000000
theorem FnExactRunStep_spec (m : Memory) (s : Step) (ho0 : Row.ok 281474976710656 m) (ho1 : Row.ok 281474976710656 s) : Spec Try.prog 3 [raMemory m, raStep s] [none] [db true] [raMemory m, raStep s] := by
  refine Spec.intro Try.func3 rfl rfl Try.ntmps3 rfl (by simp) ?_
  refine DW.seq ?_
  refine DW.reg (by simp; rfl) ?_
  refine DW.norm [(2, _), (3, _)] [(2, _), (3, _)] [] (by simp; exact ⟨rfl, rfl⟩) (by simp; exact ⟨rfl, rfl⟩) (by simp) (by rfl) ?_
  refine DW.seq ?_
  refine DW.reg (by simp; rfl) ?_
  refine DW.norm [(2, _), (3, _), (5, _)] [(2, _), (3, _)] [] (by simp; exact ⟨rfl, rfl, rfl⟩) (by simp; exact ⟨rfl, rfl⟩) (by simp) (by rfl) ?_
  refine DW.seq ?_
  refine DW.regs ?_
  refine RegO.opN 2 (by simp; rfl) ?_
  refine RegO.step rfl (OpStep.callA rfl (by simp; exact ⟨rfl, rfl⟩) (by simp; rfl) (by exact szMemory_spec _ _ (by omega) (by omega) ho0) (by simp) (by simp; rfl)) ?_
  refine RegO.opN 1 (by simp; rfl) ?_
  refine RegO.nil ?_
  refine DW.norm [(2, _), (3, _), (5, _)] [(2, _), (3, _)] [] (by simp; exact ⟨rfl, rfl, rfl⟩) (by simp; exact ⟨rfl, rfl⟩) (by simp) (by rfl) ?_
  refine DW.seq ?_
  refine DW.seq ?_
  refine DW.reg (by simp; rfl) ?_
  refine DW.norm [(2, _), (3, _), (5, _), (17, _)] [(2, _), (3, _)] [] (by simp; exact ⟨rfl, rfl, rfl, rfl⟩) (by simp; exact ⟨rfl, rfl⟩) (by simp) (by rfl) ?_
  refine DW.condB (by simp; exact rfl) (fun hc0 => ?_) (fun hc0 => ?_)
  · have hn0 : 1048576 - (Row.sz m : Int) < 0 := by simpa using hc0
    refine DW.seq ?_
    refine DW.reg (by simp; rfl) ?_
    refine DW.norm [(4, _)] [] [] (by simp; rfl) (by simp) (by simp) (by rfl) ?_
    refine DW.ret ?_
    simp [Try.results3]
  · have hn0 : ¬ (1048576 - (Row.sz m : Int) < 0) := by simpa using hc0
    have q0 : szr (1048576 - (Row.sz m : Int)) = 1048576 - (Row.sz m : Int) := szr_pos (by omega)
    refine DW.skip ?_
    refine DW.seq ?_
    refine DW.regs ?_
    refine RegO.opN 2 (by simp [q0]; rfl) ?_
    refine RegO.step rfl (OpStep.callA rfl (by simp [q0]; exact ⟨rfl, rfl⟩) (by simp [q0]; rfl) (by exact szStep_spec _ _ (by omega) (by omega) ho1) (by simp) (by simp [q0]; rfl)) ?_
    refine RegO.opN 1 (by simp [q0]; rfl) ?_
    refine RegO.nil ?_
    refine DW.norm [(2, _), (3, _), (5, _)] [(2, _), (3, _)] [] (by simp [q0]; exact ⟨rfl, rfl, rfl⟩) (by simp [q0]; exact ⟨rfl, rfl⟩) (by simp [q0]) (by rfl) ?_
    refine DW.seq ?_
    refine DW.seq ?_
    refine DW.reg (by simp [q0]; rfl) ?_
    refine DW.norm [(2, _), (3, _), (22, _)] [(2, _), (3, _)] [] (by simp [q0]; exact ⟨rfl, rfl, rfl⟩) (by simp [q0]; exact ⟨rfl, rfl⟩) (by simp [q0]) (by rfl) ?_
    refine DW.condB (by simp [q0]; exact rfl) (fun hc1 => ?_) (fun hc1 => ?_)
    · have hn1 : 1048576 - (Row.sz m : Int) - (Row.sz s : Int) < 0 := by simpa using hc1
      refine DW.seq ?_
      refine DW.reg (by simp [q0]; rfl) ?_
      refine DW.norm [(4, _)] [] [] (by simp [q0]; rfl) (by simp [q0]) (by simp [q0]) (by rfl) ?_
      refine DW.ret ?_
      simp [Try.results3]
    · have hn1 : ¬ (1048576 - (Row.sz m : Int) - (Row.sz s : Int) < 0) := by simpa using hc1
      have q1 : szr (1048576 - (Row.sz m : Int) - (Row.sz s : Int)) = 1048576 - (Row.sz m : Int) - (Row.sz s : Int) := szr_pos (by omega)
      have h0 : Row.sz m ≤ 2 ^ 36 := by omega
      have hz := Memory_sz m
      have hcl := szL_len m.Cells
      have hk : m.Kept.size < 2 ^ 40 := by omega
      have c0 : Memory.ctT m ≤ 40 * Row.sz m := Memory_clT m
      have hs : Row.sz s ≤ 2 ^ 36 := by omega
      have hl : m.Cells.length + 1 < 2 ^ 40 := by omega
      have hr0 : Row.sz (stepM m s) ≤ Row.sz m + 17 * (m.Cells.length + 1) := stepsM_sz m [s]
      have hr : Row.sz (stepM m s) ≤ 2 ^ 36 := by omega
      have c1 : Memory.ctT (stepM m s) ≤ 40 * Row.sz (stepM m s) := Memory_clT (stepM m s)
      have z0 : ¬ (1 + (Memory.ctT m : Int) < 0) := by omega
      have z1 : ¬ (1 + (Memory.ctT (stepM m s) : Int) < 0) := by omega
      refine DW.skip ?_
      refine DW.seq ?_
      refine DW.drawn mixed (by kernel_rfl) ?_
      refine RegD.addN 1 (by simp [q0, q1, z0, z1]; first | exact ⟨rfl, rfl⟩ | rfl) ?_
      refine RegD.cert (Cert.callHA rfl (by simp) rfl (by decide) (by simp [q0, q1, z0, z1]; exact ⟨rfl, rfl⟩) (by simp [q0, q1, z0, z1]; rfl) (by exact toMemory_spec _ (by first | assumption | simp [Row.sz])) rfl (by simp) (by simp) (by simp; rfl) rfl) ?_
      refine RegD.addN 1 (by simp [q0, q1, z0, z1]; first | exact ⟨rfl, rfl⟩ | rfl) ?_
      refine RegD.cert (Cert.callA rfl (by simp) rfl (by decide) (by simp [q0, q1, z0, z1]; exact ⟨rfl, rfl⟩) (by simp [q0, q1, z0, z1]; rfl) (by exact toStep_spec _ (by first | assumption | simp [Row.sz])) rfl (by simp) (by simp; rfl) rfl) ?_
      refine RegD.cert (Cert.callHA rfl (by simp) rfl (by decide) (by simp [q0, q1, z0, z1]; exact ⟨rfl, rfl⟩) (by simp [q0, q1, z0, z1]; rfl) (by exact specStep_spec m.Kept m.Cells s hk (by omega)) rfl (by simp) (by simp) (by simp; rfl) rfl) ?_
      refine RegD.cert (Cert.alloc rfl rfl rfl (by decide) (by simp; rfl) (by rfl) (by decide) (by simp)) ?_
      refine RegD.heavyF (by simp) (by simp [q0, q1, z0, z1]; rfl) ?_
      refine RegD.nil ⟨by kernel_rfl, ?_⟩
      refine DW.norm [(2, _), (3, _), (6, _)] [(2, _), (3, _), (6, _)] [] (by simp [q0, q1, z0, z1]; exact ⟨rfl, rfl, rfl⟩) (by simp [q0, q1, z0, z1]; exact ⟨rfl, rfl, rfl⟩) (by simp [q0, q1, z0, z1]) (by rfl) ?_
      refine DW.seq ?_
      refine DW.regs ?_
      refine RegO.opN 1 (by simp [q0, q1, z0, z1]; rfl) ?_
      refine RegO.step rfl (OpStep.callA rfl (by simp [q0, q1, z0, z1]; exact ⟨rfl, rfl⟩) (by simp [q0, q1, z0, z1]; rfl) (by exact toMemory_spec _ (by first | assumption | simp [Row.sz])) (by simp) (by simp [q0, q1, z0, z1]; rfl)) ?_
      refine RegO.opN 2 (by simp [q0, q1, z0, z1]; rfl) ?_
      refine RegO.nil ?_
      refine DW.norm [(2, _), (3, _), (6, _), (7, _)] [(2, _), (3, _), (6, _), (7, _)] [] (by simp [q0, q1, z0, z1]; exact ⟨rfl, rfl, rfl, rfl⟩) (by simp [q0, q1, z0, z1]; exact ⟨rfl, rfl, rfl, rfl⟩) (by simp [q0, q1, z0, z1]) (by rfl) ?_
      refine DW.seq ?_
      refine DW.drawn mixed (by kernel_rfl) ?_
      refine RegD.addN 2 (by simp [q0, q1, z0, z1]; first | exact ⟨rfl, rfl⟩ | rfl) ?_
      refine RegD.cert (Cert.callA rfl (by simp) rfl (by decide) (by simp [q0, q1, z0, z1]; exact ⟨rfl, rfl⟩) (by simp [q0, q1, z0, z1]; rfl) (by exact toStep_spec _ (by first | assumption | simp [Row.sz])) rfl (by simp) (by simp; rfl) rfl) ?_
      refine RegD.cert (Cert.callHA rfl (by simp) rfl (by decide) (by simp [q0, q1, z0, z1]; exact ⟨rfl, rfl⟩) (by simp [q0, q1, z0, z1]; rfl) (by exact runStep_spec m.Kept m.Cells s hk hl) rfl (by simp) (by simp) (by simp; rfl) rfl) ?_
      refine RegD.cert (Cert.alloc rfl rfl rfl (by decide) (by simp; rfl) (by rfl) (by decide) (by simp)) ?_
      refine RegD.heavyF (by simp) (by simp [q0, q1, z0, z1]; rfl) ?_
      refine RegD.nil ⟨by kernel_rfl, ?_⟩
      refine DW.norm [(2, _), (3, _), (6, _), (7, _), (8, _)] [(2, _), (3, _), (6, _), (7, _), (8, _)] [] (by simp [q0, q1, z0, z1]; exact ⟨rfl, rfl, rfl, rfl, rfl⟩) (by simp [q0, q1, z0, z1]; exact ⟨rfl, rfl, rfl, rfl, rfl⟩) (by simp [q0, q1, z0, z1]) (by rfl) ?_
      refine DW.seq ?_
      refine DW.seq ?_
      refine DW.regs ?_
      refine RegO.opN 2 (by simp [q0, q1, z0, z1]; rfl) ?_
      refine RegO.step rfl (OpStep.callA rfl (by simp [q0, q1, z0, z1]; exact ⟨rfl, rfl⟩) (by simp [q0, q1, z0, z1]; rfl) (by exact eqMemory_spec _ (by first | assumption | simp [Row.sz])) (by simp) (by simp [q0, q1, z0, z1]; rfl)) ?_
      refine RegO.opN 1 (by simp [q0, q1, z0, z1]; rfl) ?_
      refine RegO.nil ?_
      refine DW.norm [(2, _), (3, _), (6, _), (7, _), (8, _), (37, _)] [(2, _), (3, _), (6, _), (7, _), (8, _)] [] (by simp [q0, q1, z0, z1]; exact ⟨rfl, rfl, rfl, rfl, rfl, rfl⟩) (by simp [q0, q1, z0, z1]; exact ⟨rfl, rfl, rfl, rfl, rfl⟩) (by simp [q0, q1, z0, z1]) (by rfl) ?_
      refine DW.condF (by simp [q0, q1, z0, z1]) ?_
      refine DW.skip ?_
      refine DW.seq ?_
      refine DW.seq ?_
      refine DW.drawn mixed (by kernel_rfl) ?_
      refine RegD.addN 2 (by simp [q0, q1, z0, z1]; first | exact ⟨rfl, rfl⟩ | rfl) ?_
      refine RegD.cert (Cert.callHA rfl (by simp) rfl (by decide) (by simp [q0, q1, z0, z1]; exact ⟨rfl, rfl⟩) (by simp [q0, q1, z0, z1]; rfl) (by exact toMemory_spec _ (by first | assumption | simp [Row.sz])) rfl (by simp) (by simp) (by simp; rfl) rfl) ?_
      refine RegD.cert (Cert.callA rfl (by simp) rfl (by decide) (by simp [q0, q1, z0, z1]; exact ⟨rfl, rfl⟩) (by simp [q0, q1, z0, z1]; rfl) (by exact eqMemory_spec _ (by first | assumption | simp [Row.sz])) rfl (by simp) (by simp; rfl) rfl) ?_
      refine RegD.addN 1 (by simp [q0, q1, z0, z1]; first | exact ⟨rfl, rfl⟩ | rfl) ?_
      refine RegD.nil ⟨by kernel_rfl, ?_⟩
      refine DW.norm [(2, _), (3, _), (6, _), (7, _), (8, _), (42, _)] [(2, _), (3, _), (6, _), (7, _), (8, _)] [] (by simp [q0, q1, z0, z1]; exact ⟨rfl, rfl, rfl, rfl, rfl, rfl⟩) (by simp [q0, q1, z0, z1]; exact ⟨rfl, rfl, rfl, rfl, rfl⟩) (by simp [q0, q1, z0, z1]) (by rfl) ?_
      refine DW.condF (by simp [q0, q1, z0, z1]) ?_
      refine DW.skip ?_
      refine DW.seq ?_
      refine DW.reg (by simp [q0, q1, z0, z1]; rfl) ?_
      refine DW.norm [(2, _), (3, _), (6, _), (7, _), (8, _), (9, _)] [(2, _), (3, _), (6, _), (7, _), (8, _)] [] (by simp [q0, q1, z0, z1]; exact ⟨rfl, rfl, rfl, rfl, rfl, rfl⟩) (by simp [q0, q1, z0, z1]; exact ⟨rfl, rfl, rfl, rfl, rfl⟩) (by simp [q0, q1, z0, z1]) (by rfl) ?_
      refine DW.seq ?_
      refine DW.regs ?_
      refine RegO.opN 2 (by simp [q0, q1, z0, z1]; rfl) ?_
      refine RegO.step rfl (s1 := St [(2, _), (3, _), (6, _), (8, _), (9, _), (45, _)] [(2, _), (3, _), (6, _), (8, _)] []) (by rcases nil_or_pos2 m.Cells with ⟨m0, n0, p0⟩ | ⟨m0, n0, p0⟩ <;> exact OpStep.st (OpStep.callL (io := 0) rfl (by simp [q0, q1, z0, z1, m0, n0, p0, Memory.mkT]; rfl) (markMemory_spec m (1) (by omega) (by omega) (by assumption)) (by rfl) (by rfl) (by rfl) (by rfl) (by simp [lendL, FS.lend, q0, q1, z0, z1, m0, n0, p0, Memory.mkT]; exact ⟨rfl, rfl⟩) (by simp [apartP]) (by simp) (by simp [q0, q1, z0, z1, m0, n0, p0, Memory.mkT]; rfl) (by simp [rosOk]) (by simp) (by simp [backFS, hBack, pzsC, pzS, paCells, PC.tree, q0, q1, z0, z1, m0, n0, p0, Memory.mkT]; rfl)) (by first | (simp [q0, q1, z0, z1, m0, n0, p0, Memory.mkT]; done) | (simp [q0, q1, z0, z1, m0, n0, p0, Memory.mkT]; exact ⟨rfl, rfl, rfl, rfl, rfl, rfl⟩)) (by first | (simp [q0, q1, z0, z1, m0, n0, p0, Memory.mkT]; done) | (simp [q0, q1, z0, z1, m0, n0, p0, Memory.mkT]; exact ⟨rfl, rfl, rfl, rfl⟩)) (by simp) (by rfl)) ?_
      refine RegO.opN 1 (by simp [q0, q1, z0, z1]; rfl) ?_
      refine RegO.nil ?_
      refine DW.norm [(2, _), (3, _), (6, _), (8, _), (9, _)] [(2, _), (3, _), (6, _), (8, _)] [] (by simp [q0, q1, z0, z1]; exact ⟨rfl, rfl, rfl, rfl, rfl⟩) (by simp [q0, q1, z0, z1]; exact ⟨rfl, rfl, rfl, rfl⟩) (by simp [q0, q1, z0, z1]) (by rfl) ?_
      refine DW.seq ?_
      refine DW.seq ?_
      refine DW.regs ?_
      refine RegO.opN 5 (by simp [q0, q1, z0, z1]; rfl) ?_
      refine RegO.guard (b := true) (by simp [q0, q1, z0, z1]) (fun _ => ⟨_, (OpStep.callA rfl (by simp [q0, q1, z0, z1]; exact ⟨rfl, rfl⟩) (by simp [q0, q1, z0, z1]; rfl) (by exact eqMemory_spec _ (by first | assumption | simp [Row.sz])) (by simp) (by simp [q0, q1, z0, z1]; rfl)).toE, fun _ e => e ▸ ?_⟩) (fun h => by cases h)
      refine RegO.opN 2 (by simp [q0, q1, z0, z1]; rfl) ?_
      refine RegO.nil ?_
      refine DW.norm [(2, _), (3, _), (6, _), (8, _), (53, _)] [(2, _), (3, _), (6, _), (8, _)] [] (by simp [q0, q1, z0, z1]; exact ⟨rfl, rfl, rfl, rfl, rfl⟩) (by simp [q0, q1, z0, z1]; exact ⟨rfl, rfl, rfl, rfl⟩) (by simp [q0, q1, z0, z1]) (by rfl) ?_
      refine DW.condF (by simp [q0, q1, z0, z1]) ?_
      refine DW.skip ?_
      refine DW.seq ?_
      refine DW.reg (by simp [q0, q1, z0, z1]; rfl) ?_
      refine DW.norm [(2, _), (3, _), (6, _), (8, _), (10, _)] [(2, _), (3, _), (6, _), (8, _)] [] (by simp [q0, q1, z0, z1]; exact ⟨rfl, rfl, rfl, rfl, rfl⟩) (by simp [q0, q1, z0, z1]; exact ⟨rfl, rfl, rfl, rfl⟩) (by simp [q0, q1, z0, z1]) (by rfl) ?_
      refine DW.seq ?_
      refine DW.regs ?_
      refine RegO.opN 2 (by simp [q0, q1, z0, z1]; rfl) ?_
      refine RegO.step rfl (s1 := St [(2, _), (3, _), (6, _), (8, _), (10, _), (56, _)] [(2, _), (3, _), (6, _), (8, _)] []) (by rcases nil_or_pos2 (stepM m s).Cells with ⟨m0, n0, p0⟩ | ⟨m0, n0, p0⟩ <;> exact OpStep.st (OpStep.callL (io := 0) rfl (by simp [q0, q1, z0, z1, m0, n0, p0, Memory.mkT]; rfl) (markMemory_spec (stepM m s) (1) (by omega) (by omega) (by assumption)) (by rfl) (by rfl) (by rfl) (by rfl) (by simp [lendL, FS.lend, q0, q1, z0, z1, m0, n0, p0, Memory.mkT]; exact ⟨rfl, rfl⟩) (by simp [apartP]) (by simp) (by simp [q0, q1, z0, z1, m0, n0, p0, Memory.mkT]; rfl) (by simp [rosOk]) (by simp) (by simp [backFS, hBack, pzsC, pzS, paCells, PC.tree, q0, q1, z0, z1, m0, n0, p0, Memory.mkT]; rfl)) (by first | (simp [q0, q1, z0, z1, m0, n0, p0, Memory.mkT]; done) | (simp [q0, q1, z0, z1, m0, n0, p0, Memory.mkT]; exact ⟨rfl, rfl, rfl, rfl, rfl, rfl⟩)) (by first | (simp [q0, q1, z0, z1, m0, n0, p0, Memory.mkT]; done) | (simp [q0, q1, z0, z1, m0, n0, p0, Memory.mkT]; exact ⟨rfl, rfl, rfl, rfl⟩)) (by simp) (by rfl)) ?_
      refine RegO.opN 1 (by simp [q0, q1, z0, z1]; rfl) ?_
      refine RegO.nil ?_
      refine DW.norm [(2, _), (3, _), (6, _), (8, _), (10, _)] [(2, _), (3, _), (6, _), (8, _)] [] (by simp [q0, q1, z0, z1]; exact ⟨rfl, rfl, rfl, rfl, rfl⟩) (by simp [q0, q1, z0, z1]; exact ⟨rfl, rfl, rfl, rfl⟩) (by simp [q0, q1, z0, z1]) (by rfl) ?_
      refine DW.seq ?_
      refine DW.reg (by simp [q0, q1, z0, z1]; rfl) ?_
      refine DW.norm [(2, _), (3, _), (6, _), (8, _), (10, _), (11, _)] [(2, _), (3, _), (6, _), (8, _)] [] (by simp [q0, q1, z0, z1]; exact ⟨rfl, rfl, rfl, rfl, rfl, rfl⟩) (by simp [q0, q1, z0, z1]; exact ⟨rfl, rfl, rfl, rfl⟩) (by simp [q0, q1, z0, z1]) (by rfl) ?_
      refine DW.seq ?_
      refine DW.regs ?_
      refine RegO.opN 2 (by simp [q0, q1, z0, z1]; rfl) ?_
      refine RegO.step rfl (OpStep.callA rfl (by simp [q0, q1, z0, z1]; exact ⟨rfl, rfl⟩) (by simp [q0, q1, z0, z1]; rfl) (by exact (by have h := heldMemory_spec (stepM m s) (1) (by omega) (by omega) (by assumption); simp only [raMemory, Memory.mkT, mkL_len] at h; exact h)) (by simp) (by simp [q0, q1, z0, z1]; rfl)) ?_
      refine RegO.opN 1 (by simp [q0, q1, z0, z1]; rfl) ?_
      refine RegO.nil ?_
      refine DW.norm [(2, _), (3, _), (6, _), (8, _), (10, _), (11, _)] [(2, _), (3, _), (6, _), (8, _)] [] (by simp [q0, q1, z0, z1]; exact ⟨rfl, rfl, rfl, rfl, rfl, rfl⟩) (by simp [q0, q1, z0, z1]; exact ⟨rfl, rfl, rfl, rfl⟩) (by simp [q0, q1, z0, z1]) (by rfl) ?_
      refine DW.seq ?_
      refine DW.seq ?_
      refine DW.reg (by simp [q0, q1, z0, z1]; rfl) ?_
      refine DW.norm [(2, _), (3, _), (6, _), (8, _), (10, _), (11, _), (61, _)] [(2, _), (3, _), (6, _), (8, _)] [] (by simp [q0, q1, z0, z1]; exact ⟨rfl, rfl, rfl, rfl, rfl, rfl, rfl⟩) (by simp [q0, q1, z0, z1]; exact ⟨rfl, rfl, rfl, rfl⟩) (by simp [q0, q1, z0, z1]) (by rfl) ?_
      refine DW.condF (by simp [q0, q1, z0, z1]) ?_
      refine DW.skip ?_
      refine DW.seq ?_
      refine DW.seq ?_
      refine DW.reg (by simp [q0, q1, z0, z1]; rfl) ?_
      refine DW.norm [(2, _), (3, _), (6, _), (8, _), (10, _), (64, _)] [(2, _), (3, _), (6, _), (8, _)] [] (by simp [q0, q1, z0, z1]; exact ⟨rfl, rfl, rfl, rfl, rfl, rfl⟩) (by simp [q0, q1, z0, z1]; exact ⟨rfl, rfl, rfl, rfl⟩) (by simp [q0, q1, z0, z1]) (by rfl) ?_
      refine DW.condF (by simp [q0, q1, z0, z1]) ?_
      refine DW.skip ?_
      refine DW.seq ?_
      refine DW.drawn mixed (by kernel_rfl) ?_
      refine RegD.addN 1 (by simp [q0, q1, z0, z1]; first | exact ⟨rfl, rfl⟩ | rfl) ?_
      refine RegD.cert (Cert.callHA rfl (by simp) rfl (by decide) (by simp [q0, q1, z0, z1]; exact ⟨rfl, rfl⟩) (by simp [q0, q1, z0, z1]; rfl) (by exact toMemory_spec _ (by first | assumption | simp [Row.sz])) rfl (by simp) (by simp) (by simp; rfl) rfl) ?_
      refine RegD.addN 1 (by simp [q0, q1, z0, z1]; first | exact ⟨rfl, rfl⟩ | rfl) ?_
      refine RegD.cert (Cert.callA rfl (by simp) rfl (by decide) (by simp [q0, q1, z0, z1]; exact ⟨rfl, rfl⟩) (by simp [q0, q1, z0, z1]; rfl) (by exact toStep_spec _ (by first | assumption | simp [Row.sz])) rfl (by simp) (by simp; rfl) rfl) ?_
      refine RegD.cert (Cert.callHA rfl (by simp) rfl (by decide) (by simp [q0, q1, z0, z1]; exact ⟨rfl, rfl⟩) (by simp [q0, q1, z0, z1]; rfl) (by exact runStep_spec m.Kept m.Cells s hk hl) rfl (by simp) (by simp) (by simp; rfl) rfl) ?_
      refine RegD.cert (Cert.alloc rfl rfl rfl (by decide) (by simp; rfl) (by rfl) (by decide) (by simp)) ?_
      refine RegD.heavyF (by simp) (by simp [q0, q1, z0, z1]; rfl) ?_
      refine RegD.nil ⟨by kernel_rfl, ?_⟩
      refine DW.norm [(6, _), (8, _), (10, _), (12, _)] [(6, _), (8, _), (12, _)] [] (by simp [q0, q1, z0, z1]; exact ⟨rfl, rfl, rfl, rfl⟩) (by simp [q0, q1, z0, z1]; exact ⟨rfl, rfl, rfl⟩) (by simp [q0, q1, z0, z1]) (by rfl) ?_
      refine DW.seq ?_
      refine DW.seq ?_
      refine DW.regs ?_
      refine RegO.opN 2 (by simp [q0, q1, z0, z1]; rfl) ?_
      refine RegO.step rfl (OpStep.callA rfl (by simp [q0, q1, z0, z1]; exact ⟨rfl, rfl⟩) (by simp [q0, q1, z0, z1]; rfl) (by exact eqMemory_spec _ (by first | assumption | simp [Row.sz])) (by simp) (by simp [q0, q1, z0, z1]; rfl)) ?_
      refine RegO.opN 1 (by simp [q0, q1, z0, z1]; rfl) ?_
      refine RegO.nil ?_
      refine DW.norm [(8, _), (10, _), (73, _)] [(8, _)] [] (by simp [q0, q1, z0, z1]; exact ⟨rfl, rfl, rfl⟩) (by simp [q0, q1, z0, z1]; rfl) (by simp [q0, q1, z0, z1]) (by rfl) ?_
      refine DW.condF (by simp [q0, q1, z0, z1]) ?_
      refine DW.skip ?_
      refine DW.seq ?_
      refine DW.reg (by simp [q0, q1, z0, z1]; rfl) ?_
      refine DW.norm [(8, _), (10, _), (11, _)] [(8, _)] [] (by simp [q0, q1, z0, z1]; exact ⟨rfl, rfl, rfl⟩) (by simp [q0, q1, z0, z1]; rfl) (by simp [q0, q1, z0, z1]) (by rfl) ?_
      refine DW.seq ?_
      refine DW.regs ?_
      refine RegO.opN 2 (by simp [q0, q1, z0, z1]; rfl) ?_
      refine RegO.step rfl (OpStep.callA rfl (by simp [q0, q1, z0, z1]; exact ⟨rfl, rfl⟩) (by simp [q0, q1, z0, z1]; rfl) (by exact (by have h := heldMemory_spec (stepM m s) (1) (by omega) (by omega) (by assumption); simp only [raMemory, Memory.mkT, mkL_len] at h; exact h)) (by simp) (by simp [q0, q1, z0, z1]; rfl)) ?_
      refine RegO.opN 1 (by simp [q0, q1, z0, z1]; rfl) ?_
      refine RegO.nil ?_
      refine DW.norm [(10, _), (11, _)] [] [] (by simp [q0, q1, z0, z1]; exact ⟨rfl, rfl⟩) (by simp [q0, q1, z0, z1]) (by simp [q0, q1, z0, z1]) (by rfl) ?_
      refine DW.seq ?_
      refine DW.seq ?_
      refine DW.reg (by simp [q0, q1, z0, z1]; rfl) ?_
      refine DW.norm [(10, _), (11, _), (78, _)] [] [] (by simp [q0, q1, z0, z1]; exact ⟨rfl, rfl, rfl⟩) (by simp [q0, q1, z0, z1]) (by simp [q0, q1, z0, z1]) (by rfl) ?_
      refine DW.condF (by simp [q0, q1, z0, z1]) ?_
      refine DW.skip ?_
      refine DW.seq ?_
      refine DW.seq ?_
      refine DW.reg (by simp [q0, q1, z0, z1]; rfl) ?_
      refine DW.norm [(81, _)] [] [] (by simp [q0, q1, z0, z1]; rfl) (by simp [q0, q1, z0, z1]) (by simp [q0, q1, z0, z1]) (by rfl) ?_
      refine DW.condF (by simp [q0, q1, z0, z1]) ?_
      refine DW.skip ?_
      refine DW.seq ?_
      refine DW.reg (by simp [q0, q1, z0, z1]; rfl) ?_
      refine DW.norm [(4, _)] [] [] (by simp [q0, q1, z0, z1]; rfl) (by simp [q0, q1, z0, z1]) (by simp [q0, q1, z0, z1]) (by rfl) ?_
      refine DW.ret ?_
      simp [Try.results3]
end Go.Proofs.Ytjjdjkkhhcbogaa.DM
