import Derived.Test.YtjjdjkkhhcbogaaGreatFStFam
import Derived.Test.YtjjdjkkhhcbogaaGreatFG30
namespace Go.Proofs.YtjjdjkkhhcbogaaGreat.DM
set_option linter.unusedVariables false
set_option linter.unusedSimpArgs false
set_option maxRecDepth 4000
set_option maxHeartbeats 8000000
theorem FnExactRunJob_spec (s : System) (t : Int) (ho0 : Row.ok 281474976710656 s) : Spec Tryz.prog 8 [raSystem s, ri t] [none] [db true] [raSystem s, ri t] := by
  refine Spec.intro Tryz.func8 rfl rfl Tryz.ntmps8 rfl (by simp) ?_
  refine DW.seq ?_
  refine DW.reg (by simp; rfl) ?_
  refine DW.norm [(1, _), (2, _)] [(2, _)] [] (by simp; exact ⟨rfl, rfl⟩) (by simp; rfl) (by simp) (by rfl) ?_
  refine DW.seq ?_
  refine DW.reg (by simp; rfl) ?_
  refine DW.norm [(1, _), (2, _), (5, _)] [(2, _)] [] (by simp; exact ⟨rfl, rfl, rfl⟩) (by simp; rfl) (by simp) (by rfl) ?_
  refine DW.seq ?_
  refine DW.regs ?_
  refine RegO.opN 2 (by simp; rfl) ?_
  refine RegO.step rfl (OpStep.callA rfl (by simp; exact ⟨rfl, rfl⟩) (by simp; rfl) (by exact szSystem_spec _ _ (by omega) (by omega) ho0) (by simp) (by simp; rfl)) ?_
  refine RegO.opN 1 (by simp; rfl) ?_
  refine RegO.nil ?_
  refine DW.norm [(1, _), (2, _), (5, _)] [(2, _)] [] (by simp; exact ⟨rfl, rfl, rfl⟩) (by simp; rfl) (by simp) (by rfl) ?_
  refine DW.seq ?_
  refine DW.seq ?_
  refine DW.reg (by simp; rfl) ?_
  refine DW.norm [(1, _), (2, _), (20, _)] [(2, _)] [] (by simp; exact ⟨rfl, rfl, rfl⟩) (by simp; rfl) (by simp) (by rfl) ?_
  refine DW.condB (by simp; exact rfl) (fun hc0 => ?_) (fun hc0 => ?_)
  · have hn0 : 1048576 - (Row.sz s : Int) < 0 := by simpa using hc0
    refine DW.seq ?_
    refine DW.reg (by simp; rfl) ?_
    refine DW.norm [(4, _)] [] [] (by simp; rfl) (by simp) (by simp) (by rfl) ?_
    refine DW.ret ?_
    simp [Tryz.results8]
  · have hn0 : ¬ (1048576 - (Row.sz s : Int) < 0) := by simpa using hc0
    have q0 : szr (1048576 - (Row.sz s : Int)) = 1048576 - (Row.sz s : Int) := szr_pos (by omega)
    have h0 : Row.sz s ≤ 2 ^ 36 := by omega
    have hsp := specRunJob_spec s t (by omega)
    have hip := implRunJob_spec s t (by omega)
    have hq := runJob_sz s t
    obtain ⟨⟨S2, R2⟩, hp⟩ : ∃ p, p = runJob s t := ⟨_, rfl⟩
    rw [← hp] at hsp hip hq
    simp only at hsp hip hq
    have hr : Row.sz S2 ≤ 2 ^ 36 := by omega
    have hr2 : Row.sz R2 ≤ 2 ^ 36 := by omega
    have e0 : System.ctT s ≤ 40 * Row.sz s := System_clT s
    have e1 : System.ctT S2 ≤ 40 * Row.sz S2 := System_clT S2
    have e2 : Result.ctT R2 ≤ 40 * Row.sz R2 := Result_clT R2
    have z0 : ¬ (1 + (System.ctT s : Int) < 0) := by omega
    have z1 : ¬ (1 + (System.ctT S2 : Int) < 0) := by omega
    have z2 : ¬ (1 + (System.ctT S2 : Int) + (Result.ctT R2 : Int) < 0) := by omega
    refine DW.skip ?_
    refine DW.seq ?_
    refine DW.regs ?_
    refine RegO.opN 1 (by simp [q0, z0, z1, z2]; rfl) ?_
    refine RegO.step rfl (OpStep.callA rfl (by simp [q0, z0, z1, z2]; exact ⟨rfl, rfl⟩) (by simp [q0, z0, z1, z2]; rfl) (by exact toSystem_spec _ (by first | assumption | simp [Row.sz])) (by simp) (by simp [q0, z0, z1, z2]; rfl)) ?_
    refine RegO.opN 1 (by simp [q0, z0, z1, z2]; rfl) ?_
    refine RegO.step rfl (OpStep.callA rfl (by simp [q0, z0, z1, z2]; exact ⟨rfl, rfl⟩) (by simp [q0, z0, z1, z2]; rfl) (by exact hsp) (by simp) (by simp [q0, z0, z1, z2]; rfl)) ?_
    refine RegO.opN 7 (by simp [q0, z0, z1, z2]; rfl) ?_
    refine RegO.nil ?_
    refine DW.norm [(1, _), (2, _), (6, _), (7, _)] [(2, _), (6, _), (7, _)] [] (by simp [q0, z0, z1, z2]; exact ⟨rfl, rfl, rfl, rfl⟩) (by simp [q0, z0, z1, z2]; exact ⟨rfl, rfl, rfl⟩) (by simp [q0, z0, z1, z2]) (by rfl) ?_
    refine DW.seq ?_
    refine DW.regs ?_
    refine RegO.opN 1 (by simp [q0, z0, z1, z2]; rfl) ?_
    refine RegO.step rfl (OpStep.callA rfl (by simp [q0, z0, z1, z2]; exact ⟨rfl, rfl⟩) (by simp [q0, z0, z1, z2]; rfl) (by exact toSystem_spec _ (by first | assumption | simp [Row.sz])) (by simp) (by simp [q0, z0, z1, z2]; rfl)) ?_
    refine RegO.opN 2 (by simp [q0, z0, z1, z2]; rfl) ?_
    refine RegO.nil ?_
    refine DW.norm [(1, _), (2, _), (6, _), (7, _), (8, _)] [(2, _), (6, _), (7, _), (8, _)] [] (by simp [q0, z0, z1, z2]; exact ⟨rfl, rfl, rfl, rfl, rfl⟩) (by simp [q0, z0, z1, z2]; exact ⟨rfl, rfl, rfl, rfl⟩) (by simp [q0, z0, z1, z2]) (by rfl) ?_
    refine DW.seq ?_
    refine DW.regs ?_
    refine RegO.opN 2 (by simp [q0, z0, z1, z2]; rfl) ?_
    refine RegO.step rfl (OpStep.callA rfl (by simp [q0, z0, z1, z2]; exact ⟨rfl, rfl⟩) (by simp [q0, z0, z1, z2]; rfl) (by exact hip) (by simp) (by simp [q0, z0, z1, z2]; rfl)) ?_
    refine RegO.opN 7 (by simp [q0, z0, z1, z2]; rfl) ?_
    refine RegO.nil ?_
    refine DW.norm [(1, _), (2, _), (6, _), (7, _), (8, _), (9, _), (10, _)] [(2, _), (6, _), (7, _), (8, _), (9, _), (10, _)] [] (by simp [q0, z0, z1, z2]; exact ⟨rfl, rfl, rfl, rfl, rfl, rfl, rfl⟩) (by simp [q0, z0, z1, z2]; exact ⟨rfl, rfl, rfl, rfl, rfl, rfl⟩) (by simp [q0, z0, z1, z2]) (by rfl) ?_
    refine DW.seq ?_
    refine DW.seq ?_
    refine DW.regs ?_
    refine RegO.opN 2 (by simp [q0, z0, z1, z2]; rfl) ?_
    refine RegO.step rfl (OpStep.callA rfl (by simp [q0, z0, z1, z2]; exact ⟨rfl, rfl⟩) (by simp [q0, z0, z1, z2]; rfl) (by exact eqSystem_spec _ (by first | assumption | simp [Row.sz])) (by simp) (by simp [q0, z0, z1, z2]; rfl)) ?_
    refine RegO.opN 4 (by simp [q0, z0, z1, z2]; rfl) ?_
    refine RegO.stepT (by simp [q0, z0, z1, z2]) (OpStep.callA rfl (by simp [q0, z0, z1, z2]; exact ⟨rfl, rfl⟩) (by simp [q0, z0, z1, z2]; rfl) (by exact eqResult_spec _ (by first | assumption | simp [Row.sz])) (by simp) (by simp [q0, z0, z1, z2]; rfl)) ?_
    refine RegO.opN 2 (by simp [q0, z0, z1, z2]; rfl) ?_
    refine RegO.nil ?_
    refine DW.norm [(1, _), (2, _), (6, _), (7, _), (8, _), (9, _), (10, _), (45, _)] [(2, _), (6, _), (7, _), (8, _), (9, _), (10, _)] [] (by simp [q0, z0, z1, z2]; exact ⟨rfl, rfl, rfl, rfl, rfl, rfl, rfl, rfl⟩) (by simp [q0, z0, z1, z2]; exact ⟨rfl, rfl, rfl, rfl, rfl, rfl⟩) (by simp [q0, z0, z1, z2]) (by rfl) ?_
    refine DW.condF (by simp [q0, z0, z1, z2]) ?_
    refine DW.skip ?_
    refine DW.seq ?_
    refine DW.seq ?_
    refine DW.drawn mixed (by kernel_rfl) ?_
    refine RegD.addN 2 (by simp [q0, z0, z1, z2]; (first | done | exact ⟨rfl, rfl⟩ | rfl)) ?_
    refine RegD.cert (Cert.callHA rfl (by simp) rfl (by decide) (by simp [q0, z0, z1, z2]; exact ⟨rfl, rfl⟩) (by simp [q0, z0, z1, z2]; rfl) (by exact toSystem_spec _ (by first | assumption | simp [Row.sz])) rfl (by simp) (by simp) (by simp; rfl) rfl) ?_
    refine RegD.cert (Cert.callA rfl (by simp) rfl (by decide) (by simp [q0, z0, z1, z2]; exact ⟨rfl, rfl⟩) (by simp [q0, z0, z1, z2]; rfl) (by exact eqSystem_spec _ (by first | assumption | simp [Row.sz])) rfl (by simp) (by simp; rfl) rfl) ?_
    refine RegD.addN 1 (by simp [q0, z0, z1, z2]; (first | done | exact ⟨rfl, rfl⟩ | rfl)) ?_
    refine RegD.nil ⟨by kernel_rfl, ?_⟩
    refine DW.norm [(1, _), (2, _), (6, _), (7, _), (8, _), (9, _), (10, _), (50, _)] [(2, _), (6, _), (7, _), (8, _), (9, _), (10, _)] [] (by simp [q0, z0, z1, z2]; exact ⟨rfl, rfl, rfl, rfl, rfl, rfl, rfl, rfl⟩) (by simp [q0, z0, z1, z2]; exact ⟨rfl, rfl, rfl, rfl, rfl, rfl⟩) (by simp [q0, z0, z1, z2]) (by rfl) ?_
    refine DW.condF (by simp [q0, z0, z1, z2]) ?_
    refine DW.skip ?_
    refine DW.seq ?_
    refine DW.reg (by simp [q0, z0, z1, z2]; rfl) ?_
    refine DW.norm [(1, _), (2, _), (6, _), (7, _), (8, _), (9, _), (10, _), (11, _)] [(2, _), (6, _), (7, _), (8, _), (9, _), (10, _)] [] (by simp [q0, z0, z1, z2]; exact ⟨rfl, rfl, rfl, rfl, rfl, rfl, rfl, rfl⟩) (by simp [q0, z0, z1, z2]; exact ⟨rfl, rfl, rfl, rfl, rfl, rfl⟩) (by simp [q0, z0, z1, z2]) (by rfl) ?_
    refine DW.seq ?_
    refine DW.regs ?_
    refine RegO.opN 2 (by simp [q0, z0, z1, z2]; rfl) ?_
    refine RegO.step rfl (s1 := St [(1, _), (2, _), (6, _), (7, _), (9, _), (10, _), (11, _), (53, _)] [(2, _), (6, _), (7, _), (9, _), (10, _)] []) (by rcases nil_or_pos2 s.Memory.Cells with ⟨m0, n0, p0⟩ | ⟨m0, n0, p0⟩ <;> rcases nil_or_pos2 s.Jobs with ⟨m1, n1, p1⟩ | ⟨m1, n1, p1⟩ <;> rcases nil_or_pos2 s.Seals with ⟨m2, n2, p2⟩ | ⟨m2, n2, p2⟩ <;> exact OpStep.st (OpStep.callL (io := 0) rfl (by simp [q0, z0, z1, z2, m0, n0, p0, m1, n1, p1, m2, n2, p2, System.mkT, Memory.mkT]; rfl) (markSystem_spec s (1) (by omega) (by omega) (by assumption)) (by rfl) (by rfl) (by rfl) (by rfl) (by simp [lendL, FS.lend, q0, z0, z1, z2, m0, n0, p0, m1, n1, p1, m2, n2, p2, System.mkT, Memory.mkT]; exact ⟨rfl, rfl⟩) (by simp [apartP]) (by simp) (by simp [q0, z0, z1, z2, m0, n0, p0, m1, n1, p1, m2, n2, p2, System.mkT, Memory.mkT]; rfl) (by simp [rosOk]) (by simp) (by simp [backFS, hBack, pzsC, pzS, paCells, PC.tree, q0, z0, z1, z2, m0, n0, p0, m1, n1, p1, m2, n2, p2, System.mkT, Memory.mkT]; rfl)) (by first | (simp [q0, z0, z1, z2, m0, n0, p0, m1, n1, p1, m2, n2, p2, System.mkT, Memory.mkT]; done) | (simp [q0, z0, z1, z2, m0, n0, p0, m1, n1, p1, m2, n2, p2, System.mkT, Memory.mkT]; exact ⟨rfl, rfl, rfl, rfl, rfl, rfl, rfl, rfl⟩)) (by first | (simp [q0, z0, z1, z2, m0, n0, p0, m1, n1, p1, m2, n2, p2, System.mkT, Memory.mkT]; done) | (simp [q0, z0, z1, z2, m0, n0, p0, m1, n1, p1, m2, n2, p2, System.mkT, Memory.mkT]; exact ⟨rfl, rfl, rfl, rfl, rfl⟩)) (by simp) (by rfl)) ?_
    refine RegO.opN 1 (by simp [q0, z0, z1, z2]; rfl) ?_
    refine RegO.nil ?_
    refine DW.norm [(1, _), (2, _), (6, _), (7, _), (9, _), (10, _), (11, _)] [(2, _), (6, _), (7, _), (9, _), (10, _)] [] (by simp [q0, z0, z1, z2]; exact ⟨rfl, rfl, rfl, rfl, rfl, rfl, rfl⟩) (by simp [q0, z0, z1, z2]; exact ⟨rfl, rfl, rfl, rfl, rfl⟩) (by simp [q0, z0, z1, z2]) (by rfl) ?_
    refine DW.seq ?_
    refine DW.seq ?_
    refine DW.regs ?_
    refine RegO.opN 5 (by simp [q0, z0, z1, z2]; rfl) ?_
    refine RegO.stepT (by simp [q0, z0, z1, z2]) (OpStep.callA rfl (by simp [q0, z0, z1, z2]; exact ⟨rfl, rfl⟩) (by simp [q0, z0, z1, z2]; rfl) (by exact eqSystem_spec _ (by first | assumption | simp [Row.sz])) (by simp) (by simp [q0, z0, z1, z2]; rfl)) ?_
    refine RegO.opN 5 (by simp [q0, z0, z1, z2]; rfl) ?_
    refine RegO.stepT (by simp [q0, z0, z1, z2]) (OpStep.callA rfl (by simp [q0, z0, z1, z2]; exact ⟨rfl, rfl⟩) (by simp [q0, z0, z1, z2]; rfl) (by exact eqResult_spec _ (by first | assumption | simp [Row.sz])) (by simp) (by simp [q0, z0, z1, z2]; rfl)) ?_
    refine RegO.opN 2 (by simp [q0, z0, z1, z2]; rfl) ?_
    refine RegO.nil ?_
    refine DW.norm [(1, _), (2, _), (6, _), (7, _), (9, _), (10, _), (67, _)] [(2, _), (6, _), (7, _), (9, _), (10, _)] [] (by simp [q0, z0, z1, z2]; exact ⟨rfl, rfl, rfl, rfl, rfl, rfl, rfl⟩) (by simp [q0, z0, z1, z2]; exact ⟨rfl, rfl, rfl, rfl, rfl⟩) (by simp [q0, z0, z1, z2]) (by rfl) ?_
    refine DW.condF (by simp [q0, z0, z1, z2]) ?_
    refine DW.skip ?_
    refine DW.seq ?_
    refine DW.reg (by simp [q0, z0, z1, z2]; rfl) ?_
    refine DW.norm [(1, _), (2, _), (6, _), (7, _), (9, _), (10, _), (12, _)] [(2, _), (6, _), (7, _), (9, _), (10, _)] [] (by simp [q0, z0, z1, z2]; exact ⟨rfl, rfl, rfl, rfl, rfl, rfl, rfl⟩) (by simp [q0, z0, z1, z2]; exact ⟨rfl, rfl, rfl, rfl, rfl⟩) (by simp [q0, z0, z1, z2]) (by rfl) ?_
    refine DW.seq ?_
    refine DW.regs ?_
    refine RegO.opN 2 (by simp [q0, z0, z1, z2]; rfl) ?_
    refine RegO.step rfl (s1 := St [(1, _), (2, _), (6, _), (7, _), (9, _), (10, _), (12, _), (70, _)] [(2, _), (6, _), (7, _), (9, _), (10, _)] []) (by rcases nil_or_pos2 S2.Memory.Cells with ⟨m0, n0, p0⟩ | ⟨m0, n0, p0⟩ <;> rcases nil_or_pos2 S2.Jobs with ⟨m1, n1, p1⟩ | ⟨m1, n1, p1⟩ <;> rcases nil_or_pos2 S2.Seals with ⟨m2, n2, p2⟩ | ⟨m2, n2, p2⟩ <;> exact OpStep.st (OpStep.callL (io := 0) rfl (by simp [q0, z0, z1, z2, m0, n0, p0, m1, n1, p1, m2, n2, p2, System.mkT, Memory.mkT]; rfl) (markSystem_spec S2 (1) (by omega) (by omega) (by assumption)) (by rfl) (by rfl) (by rfl) (by rfl) (by simp [lendL, FS.lend, q0, z0, z1, z2, m0, n0, p0, m1, n1, p1, m2, n2, p2, System.mkT, Memory.mkT]; exact ⟨rfl, rfl⟩) (by simp [apartP]) (by simp) (by simp [q0, z0, z1, z2, m0, n0, p0, m1, n1, p1, m2, n2, p2, System.mkT, Memory.mkT]; rfl) (by simp [rosOk]) (by simp) (by simp [backFS, hBack, pzsC, pzS, paCells, PC.tree, q0, z0, z1, z2, m0, n0, p0, m1, n1, p1, m2, n2, p2, System.mkT, Memory.mkT]; rfl)) (by first | (simp [q0, z0, z1, z2, m0, n0, p0, m1, n1, p1, m2, n2, p2, System.mkT, Memory.mkT]; done) | (simp [q0, z0, z1, z2, m0, n0, p0, m1, n1, p1, m2, n2, p2, System.mkT, Memory.mkT]; exact ⟨rfl, rfl, rfl, rfl, rfl, rfl, rfl, rfl⟩)) (by first | (simp [q0, z0, z1, z2, m0, n0, p0, m1, n1, p1, m2, n2, p2, System.mkT, Memory.mkT]; done) | (simp [q0, z0, z1, z2, m0, n0, p0, m1, n1, p1, m2, n2, p2, System.mkT, Memory.mkT]; exact ⟨rfl, rfl, rfl, rfl, rfl⟩)) (by simp) (by rfl)) ?_
    refine RegO.opN 1 (by simp [q0, z0, z1, z2]; rfl) ?_
    refine RegO.nil ?_
    refine DW.norm [(1, _), (2, _), (6, _), (7, _), (9, _), (10, _), (12, _)] [(2, _), (6, _), (7, _), (9, _), (10, _)] [] (by simp [q0, z0, z1, z2]; exact ⟨rfl, rfl, rfl, rfl, rfl, rfl, rfl⟩) (by simp [q0, z0, z1, z2]; exact ⟨rfl, rfl, rfl, rfl, rfl⟩) (by simp [q0, z0, z1, z2]) (by rfl) ?_
    refine DW.seq ?_
    refine DW.regs ?_
    refine RegO.opN 2 (by simp [q0, z0, z1, z2]; rfl) ?_
    refine RegO.step rfl (s1 := St [(1, _), (2, _), (6, _), (7, _), (9, _), (10, _), (12, _), (73, _)] [(2, _), (6, _), (7, _), (9, _), (10, _)] []) (by rcases nil_or_pos2 R2.Names with ⟨m0, n0, p0⟩ | ⟨m0, n0, p0⟩ <;> exact OpStep.st (OpStep.callL (io := 0) rfl (by simp [q0, z0, z1, z2, m0, n0, p0, Result.mkT]; rfl) (markResult_spec R2 (1 + (System.ctT S2 : Int)) (by omega) (by omega) (by assumption)) (by rfl) (by rfl) (by rfl) (by rfl) (by simp [lendL, FS.lend, q0, z0, z1, z2, m0, n0, p0, Result.mkT]; exact ⟨rfl, rfl⟩) (by simp [apartP]) (by simp) (by simp [q0, z0, z1, z2, m0, n0, p0, Result.mkT]; rfl) (by simp [rosOk]) (by simp) (by simp [backFS, hBack, pzsC, pzS, paCells, PC.tree, q0, z0, z1, z2, m0, n0, p0, Result.mkT]; rfl)) (by first | (simp [q0, z0, z1, z2, m0, n0, p0, Result.mkT]; done) | (simp [q0, z0, z1, z2, m0, n0, p0, Result.mkT]; exact ⟨rfl, rfl, rfl, rfl, rfl, rfl, rfl, rfl⟩)) (by first | (simp [q0, z0, z1, z2, m0, n0, p0, Result.mkT]; done) | (simp [q0, z0, z1, z2, m0, n0, p0, Result.mkT]; exact ⟨rfl, rfl, rfl, rfl, rfl⟩)) (by simp) (by rfl)) ?_
    refine RegO.opN 1 (by simp [q0, z0, z1, z2]; rfl) ?_
    refine RegO.nil ?_
    refine DW.norm [(1, _), (2, _), (6, _), (7, _), (9, _), (10, _), (12, _)] [(2, _), (6, _), (7, _), (9, _), (10, _)] [] (by simp [q0, z0, z1, z2]; exact ⟨rfl, rfl, rfl, rfl, rfl, rfl, rfl⟩) (by simp [q0, z0, z1, z2]; exact ⟨rfl, rfl, rfl, rfl, rfl⟩) (by simp [q0, z0, z1, z2]) (by rfl) ?_
    refine DW.seq ?_
    refine DW.reg (by simp [q0, z0, z1, z2]; rfl) ?_
    refine DW.norm [(1, _), (2, _), (6, _), (7, _), (9, _), (10, _), (12, _), (13, _)] [(2, _), (6, _), (7, _), (9, _), (10, _)] [] (by simp [q0, z0, z1, z2]; exact ⟨rfl, rfl, rfl, rfl, rfl, rfl, rfl, rfl⟩) (by simp [q0, z0, z1, z2]; exact ⟨rfl, rfl, rfl, rfl, rfl⟩) (by simp [q0, z0, z1, z2]) (by rfl) ?_
    refine DW.seq ?_
    refine DW.regs ?_
    refine RegO.opN 2 (by simp [q0, z0, z1, z2]; rfl) ?_
    refine RegO.step rfl (OpStep.callA rfl (by simp [q0, z0, z1, z2]; exact ⟨rfl, rfl⟩) (by simp [q0, z0, z1, z2]; rfl) (by exact (by have h := heldSystem_spec S2 (1) (by omega) (by omega) (by assumption); simp only [raSystem, System.mkT, mkL_len] at h; exact h)) (by simp) (by simp [q0, z0, z1, z2]; rfl)) ?_
    refine RegO.opN 1 (by simp [q0, z0, z1, z2]; rfl) ?_
    refine RegO.nil ?_
    refine DW.norm [(1, _), (2, _), (6, _), (7, _), (9, _), (10, _), (12, _), (13, _)] [(2, _), (6, _), (7, _), (9, _), (10, _)] [] (by simp [q0, z0, z1, z2]; exact ⟨rfl, rfl, rfl, rfl, rfl, rfl, rfl, rfl⟩) (by simp [q0, z0, z1, z2]; exact ⟨rfl, rfl, rfl, rfl, rfl⟩) (by simp [q0, z0, z1, z2]) (by rfl) ?_
    refine DW.seq ?_
    refine DW.seq ?_
    refine DW.reg (by simp [q0, z0, z1, z2]; rfl) ?_
    refine DW.norm [(1, _), (2, _), (6, _), (7, _), (9, _), (10, _), (12, _), (13, _), (78, _)] [(2, _), (6, _), (7, _), (9, _), (10, _)] [] (by simp [q0, z0, z1, z2]; exact ⟨rfl, rfl, rfl, rfl, rfl, rfl, rfl, rfl, rfl⟩) (by simp [q0, z0, z1, z2]; exact ⟨rfl, rfl, rfl, rfl, rfl⟩) (by simp [q0, z0, z1, z2]) (by rfl) ?_
    refine DW.condF (by simp [q0, z0, z1, z2]) ?_
    refine DW.skip ?_
    refine DW.seq ?_
    refine DW.regs ?_
    refine RegO.opN 2 (by simp [q0, z0, z1, z2]; rfl) ?_
    refine RegO.step rfl (OpStep.callA rfl (by simp [q0, z0, z1, z2]; exact ⟨rfl, rfl⟩) (by simp [q0, z0, z1, z2]; rfl) (by exact (by have h := heldResult_spec R2 (1 + (System.ctT S2 : Int)) (by omega) (by omega) (by assumption); simp only [raResult, Result.mkT, mkL_len] at h; exact h)) (by simp) (by simp [q0, z0, z1, z2]; rfl)) ?_
    refine RegO.opN 1 (by simp [q0, z0, z1, z2]; rfl) ?_
    refine RegO.nil ?_
    refine DW.norm [(1, _), (2, _), (6, _), (7, _), (9, _), (10, _), (12, _), (13, _)] [(2, _), (6, _), (7, _), (9, _), (10, _)] [] (by simp [q0, z0, z1, z2]; exact ⟨rfl, rfl, rfl, rfl, rfl, rfl, rfl, rfl⟩) (by simp [q0, z0, z1, z2]; exact ⟨rfl, rfl, rfl, rfl, rfl⟩) (by simp [q0, z0, z1, z2]) (by rfl) ?_
    refine DW.seq ?_
    refine DW.seq ?_
    refine DW.reg (by simp [q0, z0, z1, z2]; rfl) ?_
    refine DW.norm [(1, _), (2, _), (6, _), (7, _), (9, _), (10, _), (12, _), (13, _), (83, _)] [(2, _), (6, _), (7, _), (9, _), (10, _)] [] (by simp [q0, z0, z1, z2]; exact ⟨rfl, rfl, rfl, rfl, rfl, rfl, rfl, rfl, rfl⟩) (by simp [q0, z0, z1, z2]; exact ⟨rfl, rfl, rfl, rfl, rfl⟩) (by simp [q0, z0, z1, z2]) (by rfl) ?_
    refine DW.condF (by simp [q0, z0, z1, z2]) ?_
    refine DW.skip ?_
    refine DW.seq ?_
    refine DW.seq ?_
    refine DW.reg (by simp [q0, z0, z1, z2]; rfl) ?_
    refine DW.norm [(1, _), (2, _), (6, _), (7, _), (9, _), (10, _), (12, _), (86, _)] [(2, _), (6, _), (7, _), (9, _), (10, _)] [] (by simp [q0, z0, z1, z2]; exact ⟨rfl, rfl, rfl, rfl, rfl, rfl, rfl, rfl⟩) (by simp [q0, z0, z1, z2]; exact ⟨rfl, rfl, rfl, rfl, rfl⟩) (by simp [q0, z0, z1, z2]) (by rfl) ?_
    refine DW.condF (by simp [q0, z0, z1, z2]) ?_
    refine DW.skip ?_
    refine DW.seq ?_
    refine DW.regs ?_
    refine RegO.opN 1 (by simp [q0, z0, z1, z2]; rfl) ?_
    refine RegO.step rfl (OpStep.callA rfl (by simp [q0, z0, z1, z2]; exact ⟨rfl, rfl⟩) (by simp [q0, z0, z1, z2]; rfl) (by exact toSystem_spec _ (by first | assumption | simp [Row.sz])) (by simp) (by simp [q0, z0, z1, z2]; rfl)) ?_
    refine RegO.opN 1 (by simp [q0, z0, z1, z2]; rfl) ?_
    refine RegO.step rfl (OpStep.callA rfl (by simp [q0, z0, z1, z2]; exact ⟨rfl, rfl⟩) (by simp [q0, z0, z1, z2]; rfl) (by exact hip) (by simp) (by simp [q0, z0, z1, z2]; rfl)) ?_
    refine RegO.opN 7 (by simp [q0, z0, z1, z2]; rfl) ?_
    refine RegO.nil ?_
    refine DW.norm [(6, _), (7, _), (9, _), (10, _), (12, _), (14, _), (15, _)] [(6, _), (7, _), (9, _), (10, _), (14, _), (15, _)] [] (by simp [q0, z0, z1, z2]; exact ⟨rfl, rfl, rfl, rfl, rfl, rfl, rfl⟩) (by simp [q0, z0, z1, z2]; exact ⟨rfl, rfl, rfl, rfl, rfl, rfl⟩) (by simp [q0, z0, z1, z2]) (by rfl) ?_
    refine DW.seq ?_
    refine DW.seq ?_
    refine DW.regs ?_
    refine RegO.opN 2 (by simp [q0, z0, z1, z2]; rfl) ?_
    refine RegO.step rfl (OpStep.callA rfl (by simp [q0, z0, z1, z2]; exact ⟨rfl, rfl⟩) (by simp [q0, z0, z1, z2]; rfl) (by exact eqSystem_spec _ (by first | assumption | simp [Row.sz])) (by simp) (by simp [q0, z0, z1, z2]; rfl)) ?_
    refine RegO.opN 4 (by simp [q0, z0, z1, z2]; rfl) ?_
    refine RegO.stepT (by simp [q0, z0, z1, z2]) (OpStep.callA rfl (by simp [q0, z0, z1, z2]; exact ⟨rfl, rfl⟩) (by simp [q0, z0, z1, z2]; rfl) (by exact eqResult_spec _ (by first | assumption | simp [Row.sz])) (by simp) (by simp [q0, z0, z1, z2]; rfl)) ?_
    refine RegO.opN 2 (by simp [q0, z0, z1, z2]; rfl) ?_
    refine RegO.nil ?_
    refine DW.norm [(9, _), (10, _), (12, _), (103, _)] [(9, _), (10, _)] [] (by simp [q0, z0, z1, z2]; exact ⟨rfl, rfl, rfl, rfl⟩) (by simp [q0, z0, z1, z2]; exact ⟨rfl, rfl⟩) (by simp [q0, z0, z1, z2]) (by rfl) ?_
    refine DW.condF (by simp [q0, z0, z1, z2]) ?_
    refine DW.skip ?_
    refine DW.seq ?_
    refine DW.reg (by simp [q0, z0, z1, z2]; rfl) ?_
    refine DW.norm [(9, _), (10, _), (12, _), (13, _)] [(9, _), (10, _)] [] (by simp [q0, z0, z1, z2]; exact ⟨rfl, rfl, rfl, rfl⟩) (by simp [q0, z0, z1, z2]; exact ⟨rfl, rfl⟩) (by simp [q0, z0, z1, z2]) (by rfl) ?_
    refine DW.seq ?_
    refine DW.regs ?_
    refine RegO.opN 2 (by simp [q0, z0, z1, z2]; rfl) ?_
    refine RegO.step rfl (OpStep.callA rfl (by simp [q0, z0, z1, z2]; exact ⟨rfl, rfl⟩) (by simp [q0, z0, z1, z2]; rfl) (by exact (by have h := heldSystem_spec S2 (1) (by omega) (by omega) (by assumption); simp only [raSystem, System.mkT, mkL_len] at h; exact h)) (by simp) (by simp [q0, z0, z1, z2]; rfl)) ?_
    refine RegO.opN 1 (by simp [q0, z0, z1, z2]; rfl) ?_
    refine RegO.nil ?_
    refine DW.norm [(10, _), (12, _), (13, _)] [(10, _)] [] (by simp [q0, z0, z1, z2]; exact ⟨rfl, rfl, rfl⟩) (by simp [q0, z0, z1, z2]; rfl) (by simp [q0, z0, z1, z2]) (by rfl) ?_
    refine DW.seq ?_
    refine DW.seq ?_
    refine DW.reg (by simp [q0, z0, z1, z2]; rfl) ?_
    refine DW.norm [(10, _), (12, _), (13, _), (108, _)] [(10, _)] [] (by simp [q0, z0, z1, z2]; exact ⟨rfl, rfl, rfl, rfl⟩) (by simp [q0, z0, z1, z2]; rfl) (by simp [q0, z0, z1, z2]) (by rfl) ?_
    refine DW.condF (by simp [q0, z0, z1, z2]) ?_
    refine DW.skip ?_
    refine DW.seq ?_
    refine DW.regs ?_
    refine RegO.opN 2 (by simp [q0, z0, z1, z2]; rfl) ?_
    refine RegO.step rfl (OpStep.callA rfl (by simp [q0, z0, z1, z2]; exact ⟨rfl, rfl⟩) (by simp [q0, z0, z1, z2]; rfl) (by exact (by have h := heldResult_spec R2 (1 + (System.ctT S2 : Int)) (by omega) (by omega) (by assumption); simp only [raResult, Result.mkT, mkL_len] at h; exact h)) (by simp) (by simp [q0, z0, z1, z2]; rfl)) ?_
    refine RegO.opN 1 (by simp [q0, z0, z1, z2]; rfl) ?_
    refine RegO.nil ?_
    refine DW.norm [(12, _), (13, _)] [] [] (by simp [q0, z0, z1, z2]; exact ⟨rfl, rfl⟩) (by simp [q0, z0, z1, z2]) (by simp [q0, z0, z1, z2]) (by rfl) ?_
    refine DW.seq ?_
    refine DW.seq ?_
    refine DW.reg (by simp [q0, z0, z1, z2]; rfl) ?_
    refine DW.norm [(12, _), (13, _), (113, _)] [] [] (by simp [q0, z0, z1, z2]; exact ⟨rfl, rfl, rfl⟩) (by simp [q0, z0, z1, z2]) (by simp [q0, z0, z1, z2]) (by rfl) ?_
    refine DW.condF (by simp [q0, z0, z1, z2]) ?_
    refine DW.skip ?_
    refine DW.seq ?_
    refine DW.seq ?_
    refine DW.reg (by simp [q0, z0, z1, z2]; rfl) ?_
    refine DW.norm [(116, _)] [] [] (by simp [q0, z0, z1, z2]; rfl) (by simp [q0, z0, z1, z2]) (by simp [q0, z0, z1, z2]) (by rfl) ?_
    refine DW.condF (by simp [q0, z0, z1, z2]) ?_
    refine DW.skip ?_
    refine DW.seq ?_
    refine DW.reg (by simp [q0, z0, z1, z2]; rfl) ?_
    refine DW.norm [(4, _)] [] [] (by simp [q0, z0, z1, z2]; rfl) (by simp [q0, z0, z1, z2]) (by simp [q0, z0, z1, z2]) (by rfl) ?_
    refine DW.ret ?_
    simp [Tryz.results8]
end Go.Proofs.YtjjdjkkhhcbogaaGreat.DM
