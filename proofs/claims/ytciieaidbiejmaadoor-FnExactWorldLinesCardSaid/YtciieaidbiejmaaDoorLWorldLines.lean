import Derived.Test.YtciieaidbiejmaaDoorFWlFam
import Derived.Test.YtciieaidbiejmaaDoorLT9
namespace Go.Proofs.YtciieaidbiejmaaDoor.DM
set_option linter.unusedVariables false
set_option linter.unusedSimpArgs false
set_option maxRecDepth 4000
set_option maxHeartbeats 8000000
theorem FnExactWorldLines_spec (w : World) (ho0 : Row.ok 281474976710656 w) : Spec Tryd.prog 6 [raWorld w] [none] [db true] [raWorld w] := by
  refine Spec.intro Tryd.func6 rfl rfl Tryd.ntmps6 rfl (by simp) ?_
  refine DW.seq ?_
  refine DW.reg (by simp; rfl) ?_
  refine DW.norm [(1, _)] [(1, _)] [] (by simp; rfl) (by simp; rfl) (by simp) (by rfl) ?_
  refine DW.seq ?_
  refine DW.reg (by simp; rfl) ?_
  refine DW.norm [(1, _), (3, _)] [(1, _)] [] (by simp; exact ⟨rfl, rfl⟩) (by simp; rfl) (by simp) (by rfl) ?_
  refine DW.seq ?_
  refine DW.regs ?_
  refine RegO.opN 2 (by simp; rfl) ?_
  refine RegO.step rfl (OpStep.callA rfl (by simp; exact ⟨rfl, rfl⟩) (by simp; rfl) (by exact szWorld_spec _ _ (by omega) (by omega) ho0) (by simp) (by simp; rfl)) ?_
  refine RegO.opN 1 (by simp; rfl) ?_
  refine RegO.nil ?_
  refine DW.norm [(1, _), (3, _)] [(1, _)] [] (by simp; exact ⟨rfl, rfl⟩) (by simp; rfl) (by simp) (by rfl) ?_
  refine DW.seq ?_
  refine DW.seq ?_
  refine DW.reg (by simp; rfl) ?_
  refine DW.norm [(1, _), (15, _)] [(1, _)] [] (by simp; exact ⟨rfl, rfl⟩) (by simp; rfl) (by simp) (by rfl) ?_
  refine DW.condB (by simp; exact rfl) (fun hc0 => ?_) (fun hc0 => ?_)
  · have hn0 : 1048576 - (Row.sz w : Int) < 0 := by simpa using hc0
    refine DW.seq ?_
    refine DW.reg (by simp; rfl) ?_
    refine DW.norm [(2, _)] [] [] (by simp; rfl) (by simp) (by simp) (by rfl) ?_
    refine DW.ret ?_
    simp [Tryd.results6]
  · have hn0 : ¬ (1048576 - (Row.sz w : Int) < 0) := by simpa using hc0
    have q0 : szr (1048576 - (Row.sz w : Int)) = 1048576 - (Row.sz w : Int) := szr_pos (by omega)
    have h0 : Row.sz w ≤ 2 ^ 36 := by omega
    have hr0 := worldL_sz w h0
    have hr : szL (worldL w) ≤ 2 ^ 36 := by omega
    have c0 : World.ctT w ≤ 40 * Row.sz w := World_clT w
    have c1 := ctL_le (worldL w)
    have z0 : ¬ (1 + (World.ctT w : Int) < 0) := by omega
    have z1 : ¬ (1 + (ctL (worldL w) : Int) < 0) := by omega
    refine DW.skip ?_
    refine DW.seq ?_
    refine DW.regs ?_
    refine RegO.opN 1 (by simp [q0, z0, z1]; rfl) ?_
    refine RegO.step rfl (OpStep.callA rfl (by simp [q0, z0, z1]; exact ⟨rfl, rfl⟩) (by simp [q0, z0, z1]; rfl) (by exact toWorld_spec _ (by first | assumption | simp [Row.sz])) (by simp) (by simp [q0, z0, z1]; rfl)) ?_
    refine RegO.step rfl (OpStep.callA rfl (by simp [q0, z0, z1]; exact ⟨rfl, rfl⟩) (by simp [q0, z0, z1]; rfl) (by exact specWorldLines_spec w h0) (by simp) (by simp [q0, z0, z1]; rfl)) ?_
    refine RegO.opN 1 (by simp [q0, z0, z1]; rfl) ?_
    refine RegO.nil ?_
    refine DW.norm [(1, _), (4, _)] [(1, _), (18, _)] [] (by simp [q0, z0, z1]; exact ⟨rfl, rfl⟩) (by simp [q0, z0, z1]; exact ⟨rfl, rfl⟩) (by simp [q0, z0, z1]) (by rfl) ?_
    refine DW.seq ?_
    refine DW.regs ?_
    refine RegO.opN 1 (by simp [q0, z0, z1]; rfl) ?_
    refine RegO.step rfl (OpStep.callA rfl (by simp [q0, z0, z1]; exact ⟨rfl, rfl⟩) (by simp [q0, z0, z1]; rfl) (by exact toWorld_spec _ (by first | assumption | simp [Row.sz])) (by simp) (by simp [q0, z0, z1]; rfl)) ?_
    refine RegO.opN 2 (by simp [q0, z0, z1]; rfl) ?_
    refine RegO.nil ?_
    refine DW.norm [(1, _), (4, _), (5, _)] [(1, _), (5, _), (18, _)] [] (by simp [q0, z0, z1]; exact ⟨rfl, rfl, rfl⟩) (by simp [q0, z0, z1]; exact ⟨rfl, rfl, rfl⟩) (by simp [q0, z0, z1]) (by rfl) ?_
    refine DW.seq ?_
    refine DW.regs ?_
    refine RegO.opN 1 (by simp [q0, z0, z1]; rfl) ?_
    refine RegO.step rfl (OpStep.callA rfl (by simp [q0, z0, z1]; exact ⟨rfl, rfl⟩) (by simp [q0, z0, z1]; rfl) (by exact implWorldLines_spec w h0) (by simp) (by simp [q0, z0, z1]; rfl)) ?_
    refine RegO.opN 1 (by simp [q0, z0, z1]; rfl) ?_
    refine RegO.nil ?_
    refine DW.norm [(1, _), (4, _), (5, _), (6, _)] [(1, _), (5, _), (18, _), (22, _)] [] (by simp [q0, z0, z1]; exact ⟨rfl, rfl, rfl, rfl⟩) (by simp [q0, z0, z1]; exact ⟨rfl, rfl, rfl, rfl⟩) (by simp [q0, z0, z1]) (by rfl) ?_
    refine DW.seq ?_
    refine DW.seq ?_
    refine DW.regs ?_
    refine RegO.opN 2 (by simp [q0, z0, z1]; rfl) ?_
    refine RegO.step rfl (OpStep.callA rfl (by simp [q0, z0, z1]; exact ⟨rfl, rfl⟩) (by simp [q0, z0, z1]; rfl) (by exact eqStringS_spec _ (by first | assumption | simp [Row.sz])) (by simp) (by simp [q0, z0, z1]; rfl)) ?_
    refine RegO.opN 1 (by simp [q0, z0, z1]; rfl) ?_
    refine RegO.nil ?_
    refine DW.norm [(1, _), (4, _), (5, _), (6, _), (26, _)] [(1, _), (5, _), (18, _), (22, _)] [] (by simp [q0, z0, z1]; exact ⟨rfl, rfl, rfl, rfl, rfl⟩) (by simp [q0, z0, z1]; exact ⟨rfl, rfl, rfl, rfl⟩) (by simp [q0, z0, z1]) (by rfl) ?_
    refine DW.condF (by simp [q0, z0, z1]) ?_
    refine DW.skip ?_
    refine DW.seq ?_
    refine DW.seq ?_
    refine DW.drawn mixed (by kernel_rfl) ?_
    refine RegD.addN 2 (by simp [q0, z0, z1]; (first | done | exact ⟨rfl, rfl⟩ | rfl)) ?_
    refine RegD.cert (Cert.callHA rfl (by simp) rfl (by decide) (by simp [q0, z0, z1]; exact ⟨rfl, rfl⟩) (by simp [q0, z0, z1]; rfl) (by exact toWorld_spec _ (by first | assumption | simp [Row.sz])) rfl (by simp) (by simp) (by simp; rfl) rfl) ?_
    refine RegD.cert (Cert.callA rfl (by simp) rfl (by decide) (by simp [q0, z0, z1]; exact ⟨rfl, rfl⟩) (by simp [q0, z0, z1]; rfl) (by exact eqWorld_spec _ (by first | assumption | simp [Row.sz])) rfl (by simp) (by simp; rfl) rfl) ?_
    refine RegD.addN 1 (by simp [q0, z0, z1]; (first | done | exact ⟨rfl, rfl⟩ | rfl)) ?_
    refine RegD.nil ⟨by kernel_rfl, ?_⟩
    refine DW.norm [(1, _), (4, _), (5, _), (6, _), (31, _)] [(1, _), (5, _), (18, _), (22, _)] [] (by simp [q0, z0, z1]; exact ⟨rfl, rfl, rfl, rfl, rfl⟩) (by simp [q0, z0, z1]; exact ⟨rfl, rfl, rfl, rfl⟩) (by simp [q0, z0, z1]) (by rfl) ?_
    refine DW.condF (by simp [q0, z0, z1]) ?_
    refine DW.skip ?_
    refine DW.seq ?_
    refine DW.reg (by simp [q0, z0, z1]; rfl) ?_
    refine DW.norm [(1, _), (4, _), (5, _), (6, _), (7, _)] [(1, _), (5, _), (18, _), (22, _)] [] (by simp [q0, z0, z1]; exact ⟨rfl, rfl, rfl, rfl, rfl⟩) (by simp [q0, z0, z1]; exact ⟨rfl, rfl, rfl, rfl⟩) (by simp [q0, z0, z1]) (by rfl) ?_
    refine DW.seq ?_
    refine DW.regs ?_
    refine RegO.opN 2 (by simp [q0, z0, z1]; rfl) ?_
    refine RegO.step rfl (s1 := St [(1, _), (4, _), (6, _), (7, _), (34, _)] [(1, _), (18, _), (22, _)] []) (by rcases nil_or_pos2 w.System.Memory.Cells with ⟨m0, n0, p0⟩ | ⟨m0, n0, p0⟩ <;> rcases nil_or_pos2 w.System.Jobs with ⟨m1, n1, p1⟩ | ⟨m1, n1, p1⟩ <;> rcases nil_or_pos2 w.System.Seals with ⟨m2, n2, p2⟩ | ⟨m2, n2, p2⟩ <;> rcases nil_or_pos2 w.Views with ⟨m3, n3, p3⟩ | ⟨m3, n3, p3⟩ <;> rcases nil_or_pos2 w.Hoped with ⟨m4, n4, p4⟩ | ⟨m4, n4, p4⟩ <;> exact OpStep.st (OpStep.callL (io := 0) rfl (by simp [q0, z0, z1, m0, n0, p0, m1, n1, p1, m2, n2, p2, m3, n3, p3, m4, n4, p4, World.mkT, System.mkT]; rfl) (markWorld_spec w (1) (by omega) (by omega) (by assumption)) (by rfl) (by rfl) (by rfl) (by rfl) (by simp [lendL, FS.lend, q0, z0, z1, m0, n0, p0, m1, n1, p1, m2, n2, p2, m3, n3, p3, m4, n4, p4, World.mkT, System.mkT]; exact ⟨rfl, rfl⟩) (by simp [apartP]) (by simp) (by simp [q0, z0, z1, m0, n0, p0, m1, n1, p1, m2, n2, p2, m3, n3, p3, m4, n4, p4, World.mkT, System.mkT]; rfl) (by simp [rosOk]) (by simp) (by simp [backFS, hBack, pzsC, pzS, paCells, PC.tree, q0, z0, z1, m0, n0, p0, m1, n1, p1, m2, n2, p2, m3, n3, p3, m4, n4, p4, World.mkT, System.mkT]; rfl)) (by first | (simp [q0, z0, z1, m0, n0, p0, m1, n1, p1, m2, n2, p2, m3, n3, p3, m4, n4, p4, World.mkT, System.mkT]; done) | (simp [q0, z0, z1, m0, n0, p0, m1, n1, p1, m2, n2, p2, m3, n3, p3, m4, n4, p4, World.mkT, System.mkT]; exact ⟨rfl, rfl, rfl, rfl, rfl⟩)) (by first | (simp [q0, z0, z1, m0, n0, p0, m1, n1, p1, m2, n2, p2, m3, n3, p3, m4, n4, p4, World.mkT, System.mkT]; done) | (simp [q0, z0, z1, m0, n0, p0, m1, n1, p1, m2, n2, p2, m3, n3, p3, m4, n4, p4, World.mkT, System.mkT]; exact ⟨rfl, rfl, rfl⟩)) (by simp) (by rfl)) ?_
    refine RegO.opN 1 (by simp [q0, z0, z1]; rfl) ?_
    refine RegO.nil ?_
    refine DW.norm [(1, _), (4, _), (6, _), (7, _)] [(1, _), (18, _), (22, _)] [] (by simp [q0, z0, z1]; exact ⟨rfl, rfl, rfl, rfl⟩) (by simp [q0, z0, z1]; exact ⟨rfl, rfl, rfl⟩) (by simp [q0, z0, z1]) (by rfl) ?_
    refine DW.seq ?_
    refine DW.seq ?_
    refine DW.regs ?_
    refine RegO.opN 5 (by simp [q0, z0, z1]; rfl) ?_
    refine RegO.stepT (by simp [q0, z0, z1]) (OpStep.callA rfl (by simp [q0, z0, z1]; exact ⟨rfl, rfl⟩) (by simp [q0, z0, z1]; rfl) (by exact eqStringS_spec _ (by first | assumption | simp [Row.sz])) (by simp) (by simp [q0, z0, z1]; rfl)) ?_
    refine RegO.opN 2 (by simp [q0, z0, z1]; rfl) ?_
    refine RegO.nil ?_
    refine DW.norm [(1, _), (4, _), (6, _), (42, _)] [(1, _), (18, _), (22, _)] [] (by simp [q0, z0, z1]; exact ⟨rfl, rfl, rfl, rfl⟩) (by simp [q0, z0, z1]; exact ⟨rfl, rfl, rfl⟩) (by simp [q0, z0, z1]) (by rfl) ?_
    refine DW.condF (by simp [q0, z0, z1]) ?_
    refine DW.skip ?_
    refine DW.seq ?_
    refine DW.reg (by simp [q0, z0, z1]; rfl) ?_
    refine DW.norm [(1, _), (4, _), (6, _), (8, _)] [(1, _), (18, _), (22, _)] [] (by simp [q0, z0, z1]; exact ⟨rfl, rfl, rfl, rfl⟩) (by simp [q0, z0, z1]; exact ⟨rfl, rfl, rfl⟩) (by simp [q0, z0, z1]) (by rfl) ?_
    refine DW.seq ?_
    refine DW.regs ?_
    refine RegO.opN 2 (by simp [q0, z0, z1]; rfl) ?_
    refine RegO.step rfl (OpStep.callL (io := 0) rfl (by simp [q0, z0, z1]; rfl) (markStringS_spec (worldL w) (1) (by omega) (by omega) (by assumption)) (by rfl) (by rfl) (by rfl) (by rfl) (by simp [lendL, FS.lend, q0, z0, z1]; exact ⟨rfl, rfl⟩) (by simp [apartP]) (by simp) (by simp [q0, z0, z1]; rfl) (by simp [rosOk]) (by simp) (by simp [backFS, hBack, pzsC, pzS, paCells, PC.tree, q0, z0, z1]; rfl)) ?_
    refine RegO.opN 1 (by simp [q0, z0, z1]; rfl) ?_
    refine RegO.nil ?_
    refine DW.norm [(1, _), (4, _), (6, _), (8, _)] [(1, _), (18, _), (22, _)] [] (by simp [q0, z0, z1]; exact ⟨rfl, rfl, rfl, rfl⟩) (by simp [q0, z0, z1]; exact ⟨rfl, rfl, rfl⟩) (by simp [q0, z0, z1]) (by rfl) ?_
    refine DW.seq ?_
    refine DW.reg (by simp [q0, z0, z1]; rfl) ?_
    refine DW.norm [(1, _), (4, _), (6, _), (8, _), (9, _)] [(1, _), (18, _), (22, _)] [] (by simp [q0, z0, z1]; exact ⟨rfl, rfl, rfl, rfl, rfl⟩) (by simp [q0, z0, z1]; exact ⟨rfl, rfl, rfl⟩) (by simp [q0, z0, z1]) (by rfl) ?_
    refine DW.seq ?_
    refine DW.regs ?_
    refine RegO.opN 2 (by simp [q0, z0, z1]; rfl) ?_
    refine RegO.step rfl (OpStep.callA rfl (by simp [q0, z0, z1]; exact ⟨rfl, rfl⟩) (by simp [q0, z0, z1]; rfl) (by exact heldStringS_spec (worldL w) (1) (by omega) (by omega) (by assumption)) (by simp) (by simp [q0, z0, z1]; rfl)) ?_
    refine RegO.opN 1 (by simp [q0, z0, z1]; rfl) ?_
    refine RegO.nil ?_
    refine DW.norm [(1, _), (4, _), (6, _), (8, _), (9, _)] [(1, _), (18, _), (22, _)] [] (by simp [q0, z0, z1]; exact ⟨rfl, rfl, rfl, rfl, rfl⟩) (by simp [q0, z0, z1]; exact ⟨rfl, rfl, rfl⟩) (by simp [q0, z0, z1]) (by rfl) ?_
    refine DW.seq ?_
    refine DW.seq ?_
    refine DW.reg (by simp [q0, z0, z1]; rfl) ?_
    refine DW.norm [(1, _), (4, _), (6, _), (8, _), (9, _), (50, _)] [(1, _), (18, _), (22, _)] [] (by simp [q0, z0, z1]; exact ⟨rfl, rfl, rfl, rfl, rfl, rfl⟩) (by simp [q0, z0, z1]; exact ⟨rfl, rfl, rfl⟩) (by simp [q0, z0, z1]) (by rfl) ?_
    refine DW.condF (by simp [q0, z0, z1]) ?_
    refine DW.skip ?_
    refine DW.seq ?_
    refine DW.seq ?_
    refine DW.reg (by simp [q0, z0, z1]; rfl) ?_
    refine DW.norm [(1, _), (4, _), (6, _), (8, _), (53, _)] [(1, _), (18, _), (22, _)] [] (by simp [q0, z0, z1]; exact ⟨rfl, rfl, rfl, rfl, rfl⟩) (by simp [q0, z0, z1]; exact ⟨rfl, rfl, rfl⟩) (by simp [q0, z0, z1]) (by rfl) ?_
    refine DW.condF (by simp [q0, z0, z1]) ?_
    refine DW.skip ?_
    refine DW.seq ?_
    refine DW.regs ?_
    refine RegO.opN 1 (by simp [q0, z0, z1]; rfl) ?_
    refine RegO.step rfl (OpStep.callA rfl (by simp [q0, z0, z1]; exact ⟨rfl, rfl⟩) (by simp [q0, z0, z1]; rfl) (by exact toWorld_spec _ (by first | assumption | simp [Row.sz])) (by simp) (by simp [q0, z0, z1]; rfl)) ?_
    refine RegO.step rfl (OpStep.callA rfl (by simp [q0, z0, z1]; exact ⟨rfl, rfl⟩) (by simp [q0, z0, z1]; rfl) (by exact implWorldLines_spec w h0) (by simp) (by simp [q0, z0, z1]; rfl)) ?_
    refine RegO.opN 1 (by simp [q0, z0, z1]; rfl) ?_
    refine RegO.nil ?_
    refine DW.norm [(4, _), (6, _), (8, _), (10, _)] [(18, _), (22, _), (56, _)] [] (by simp [q0, z0, z1]; exact ⟨rfl, rfl, rfl, rfl⟩) (by simp [q0, z0, z1]; exact ⟨rfl, rfl, rfl⟩) (by simp [q0, z0, z1]) (by rfl) ?_
    refine DW.seq ?_
    refine DW.seq ?_
    refine DW.regs ?_
    refine RegO.opN 2 (by simp [q0, z0, z1]; rfl) ?_
    refine RegO.step rfl (OpStep.callA rfl (by simp [q0, z0, z1]; exact ⟨rfl, rfl⟩) (by simp [q0, z0, z1]; rfl) (by exact eqStringS_spec _ (by first | assumption | simp [Row.sz])) (by simp) (by simp [q0, z0, z1]; rfl)) ?_
    refine RegO.opN 1 (by simp [q0, z0, z1]; rfl) ?_
    refine RegO.nil ?_
    refine DW.norm [(6, _), (8, _), (60, _)] [(22, _)] [] (by simp [q0, z0, z1]; exact ⟨rfl, rfl, rfl⟩) (by simp [q0, z0, z1]; rfl) (by simp [q0, z0, z1]) (by rfl) ?_
    refine DW.condF (by simp [q0, z0, z1]) ?_
    refine DW.skip ?_
    refine DW.seq ?_
    refine DW.reg (by simp [q0, z0, z1]; rfl) ?_
    refine DW.norm [(6, _), (8, _), (9, _)] [(22, _)] [] (by simp [q0, z0, z1]; exact ⟨rfl, rfl, rfl⟩) (by simp [q0, z0, z1]; rfl) (by simp [q0, z0, z1]) (by rfl) ?_
    refine DW.seq ?_
    refine DW.regs ?_
    refine RegO.opN 2 (by simp [q0, z0, z1]; rfl) ?_
    refine RegO.step rfl (OpStep.callA rfl (by simp [q0, z0, z1]; exact ⟨rfl, rfl⟩) (by simp [q0, z0, z1]; rfl) (by exact heldStringS_spec (worldL w) (1) (by omega) (by omega) (by assumption)) (by simp) (by simp [q0, z0, z1]; rfl)) ?_
    refine RegO.opN 1 (by simp [q0, z0, z1]; rfl) ?_
    refine RegO.nil ?_
    refine DW.norm [(8, _), (9, _)] [] [] (by simp [q0, z0, z1]; exact ⟨rfl, rfl⟩) (by simp [q0, z0, z1]) (by simp [q0, z0, z1]) (by rfl) ?_
    refine DW.seq ?_
    refine DW.seq ?_
    refine DW.reg (by simp [q0, z0, z1]; rfl) ?_
    refine DW.norm [(8, _), (9, _), (65, _)] [] [] (by simp [q0, z0, z1]; exact ⟨rfl, rfl, rfl⟩) (by simp [q0, z0, z1]) (by simp [q0, z0, z1]) (by rfl) ?_
    refine DW.condF (by simp [q0, z0, z1]) ?_
    refine DW.skip ?_
    refine DW.seq ?_
    refine DW.seq ?_
    refine DW.reg (by simp [q0, z0, z1]; rfl) ?_
    refine DW.norm [(68, _)] [] [] (by simp [q0, z0, z1]; rfl) (by simp [q0, z0, z1]) (by simp [q0, z0, z1]) (by rfl) ?_
    refine DW.condF (by simp [q0, z0, z1]) ?_
    refine DW.skip ?_
    refine DW.seq ?_
    refine DW.reg (by simp [q0, z0, z1]; rfl) ?_
    refine DW.norm [(2, _)] [] [] (by simp [q0, z0, z1]; rfl) (by simp [q0, z0, z1]) (by simp [q0, z0, z1]) (by rfl) ?_
    refine DW.ret ?_
    simp [Tryd.results6]
end Go.Proofs.YtciieaidbiejmaaDoor.DM
