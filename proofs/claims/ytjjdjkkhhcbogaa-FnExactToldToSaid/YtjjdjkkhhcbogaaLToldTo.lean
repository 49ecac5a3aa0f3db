import Derived.Test.YtjjdjkkhhcbogaaFToldTo
namespace Go.Proofs.Ytjjdjkkhhcbogaa.DM
set_option linter.unusedVariables false
set_option linter.unusedSimpArgs false
set_option maxRecDepth 4000
set_option maxHeartbeats 8000000
theorem FnExactToldTo_spec (l : List Told) (t : Int) (ho0 : okL 281474976710656 l) : Spec Try.prog 7 [ra l, ri t] [none] [db true] [ra l, ri t] := by
  refine Spec.intro Try.func7 rfl rfl Try.ntmps7 rfl (by simp) ?_
  refine DW.seq ?_
  refine DW.reg (by simp; rfl) ?_
  refine DW.norm [(0, _), (1, _)] [] [] (by simp; exact ⟨rfl, rfl⟩) (by simp) (by simp) (by rfl) ?_
  refine DW.seq ?_
  refine DW.reg (by simp; rfl) ?_
  refine DW.norm [(0, _), (1, _), (5, _)] [] [] (by simp; exact ⟨rfl, rfl, rfl⟩) (by simp) (by simp) (by rfl) ?_
  refine DW.seq ?_
  refine DW.regs ?_
  refine RegO.opN 2 (by simp; rfl) ?_
  refine RegO.step rfl (OpStep.callA rfl (by simp; exact ⟨rfl, rfl⟩) (by simp; rfl) (by exact szToldS_spec _ _ (by omega) (by omega) ho0) (by simp) (by simp; rfl)) ?_
  refine RegO.opN 1 (by simp; rfl) ?_
  refine RegO.nil ?_
  refine DW.norm [(0, _), (1, _), (5, _)] [] [] (by simp; exact ⟨rfl, rfl, rfl⟩) (by simp) (by simp) (by rfl) ?_
  refine DW.seq ?_
  refine DW.seq ?_
  refine DW.reg (by simp; rfl) ?_
  refine DW.norm [(0, _), (1, _), (17, _)] [] [] (by simp; exact ⟨rfl, rfl, rfl⟩) (by simp) (by simp) (by rfl) ?_
  refine DW.condB (by simp; exact rfl) (fun hc0 => ?_) (fun hc0 => ?_)
  · have hn0 : 1048576 - (szL l : Int) < 0 := by simpa using hc0
    refine DW.seq ?_
    refine DW.reg (by simp; rfl) ?_
    refine DW.norm [(4, _)] [] [] (by simp; rfl) (by simp) (by simp) (by rfl) ?_
    refine DW.ret ?_
    simp [Try.results7]
  · have hn0 : ¬ (1048576 - (szL l : Int) < 0) := by simpa using hc0
    have q0 : szr (1048576 - (szL l : Int)) = 1048576 - (szL l : Int) := szr_pos (by omega)
    have h0 : szL l ≤ 2 ^ 36 := by omega
    have hr : szL (toldTo l t) ≤ 2 ^ 36 := Nat.le_trans (toldTo_sz l t) h0
    have c0 := ctL_le l
    have c1 := ctL_le (toldTo l t)
    have z0 : ¬ (1 + (ctL l : Int) < 0) := by omega
    have z1 : ¬ (1 + (ctL (toldTo l t) : Int) < 0) := by omega
    refine DW.skip ?_
    refine DW.seq ?_
    refine DW.regs ?_
    refine RegO.opN 1 (by simp [q0, z0, z1]; rfl) ?_
    refine RegO.step rfl (OpStep.callA rfl (by simp [q0, z0, z1]; exact ⟨rfl, rfl⟩) (by simp [q0, z0, z1]; rfl) (by exact toToldS_spec _ (by first | assumption | simp [Row.sz])) (by simp) (by simp [q0, z0, z1]; rfl)) ?_
    refine RegO.opN 1 (by simp [q0, z0, z1]; rfl) ?_
    refine RegO.step rfl (OpStep.callA rfl (by simp [q0, z0, z1]; exact ⟨rfl, rfl⟩) (by simp [q0, z0, z1]; rfl) (by exact specToldTo_spec _ _ (by assumption)) (by simp) (by simp [q0, z0, z1]; rfl)) ?_
    refine RegO.opN 1 (by simp [q0, z0, z1]; rfl) ?_
    refine RegO.nil ?_
    refine DW.norm [(0, _), (1, _), (6, _)] [(21, _)] [] (by simp [q0, z0, z1]; exact ⟨rfl, rfl, rfl⟩) (by simp [q0, z0, z1]; rfl) (by simp [q0, z0, z1]) (by rfl) ?_
    refine DW.seq ?_
    refine DW.regs ?_
    refine RegO.opN 1 (by simp [q0, z0, z1]; rfl) ?_
    refine RegO.step rfl (OpStep.callA rfl (by simp [q0, z0, z1]; exact ⟨rfl, rfl⟩) (by simp [q0, z0, z1]; rfl) (by exact toToldS_spec _ (by first | assumption | simp [Row.sz])) (by simp) (by simp [q0, z0, z1]; rfl)) ?_
    refine RegO.opN 1 (by simp [q0, z0, z1]; rfl) ?_
    refine RegO.nil ?_
    refine DW.norm [(0, _), (1, _), (6, _), (7, _)] [(21, _), (23, _)] [] (by simp [q0, z0, z1]; exact ⟨rfl, rfl, rfl, rfl⟩) (by simp [q0, z0, z1]; exact ⟨rfl, rfl⟩) (by simp [q0, z0, z1]) (by rfl) ?_
    refine DW.seq ?_
    refine DW.regs ?_
    refine RegO.opN 2 (by simp [q0, z0, z1]; rfl) ?_
    refine RegO.step rfl (OpStep.callA rfl (by simp [q0, z0, z1]; exact ⟨rfl, rfl⟩) (by simp [q0, z0, z1]; rfl) (by exact implToldTo_spec _ _ (by assumption)) (by simp) (by simp [q0, z0, z1]; rfl)) ?_
    refine RegO.opN 1 (by simp [q0, z0, z1]; rfl) ?_
    refine RegO.nil ?_
    refine DW.norm [(0, _), (1, _), (6, _), (7, _), (8, _)] [(21, _), (23, _), (26, _)] [] (by simp [q0, z0, z1]; exact ⟨rfl, rfl, rfl, rfl, rfl⟩) (by simp [q0, z0, z1]; exact ⟨rfl, rfl, rfl⟩) (by simp [q0, z0, z1]) (by rfl) ?_
    refine DW.seq ?_
    refine DW.seq ?_
    refine DW.regs ?_
    refine RegO.opN 2 (by simp [q0, z0, z1]; rfl) ?_
    refine RegO.step rfl (OpStep.callA rfl (by simp [q0, z0, z1]; exact ⟨rfl, rfl⟩) (by simp [q0, z0, z1]; rfl) (by exact eqResultS_spec _ (by first | assumption | simp [Row.sz])) (by simp) (by simp [q0, z0, z1]; rfl)) ?_
    refine RegO.opN 1 (by simp [q0, z0, z1]; rfl) ?_
    refine RegO.nil ?_
    refine DW.norm [(0, _), (1, _), (6, _), (7, _), (8, _), (30, _)] [(21, _), (23, _), (26, _)] [] (by simp [q0, z0, z1]; exact ⟨rfl, rfl, rfl, rfl, rfl, rfl⟩) (by simp [q0, z0, z1]; exact ⟨rfl, rfl, rfl⟩) (by simp [q0, z0, z1]) (by rfl) ?_
    refine DW.condF (by simp [q0, z0, z1]) ?_
    refine DW.skip ?_
    refine DW.seq ?_
    refine DW.seq ?_
    refine DW.regs ?_
    refine RegO.opN 2 (by simp [q0, z0, z1]; rfl) ?_
    refine RegO.step rfl (OpStep.callA rfl (by simp [q0, z0, z1]; exact ⟨rfl, rfl⟩) (by simp [q0, z0, z1]; rfl) (by exact toToldS_spec _ (by first | assumption | simp [Row.sz])) (by simp) (by simp [q0, z0, z1]; rfl)) ?_
    refine RegO.step rfl (OpStep.callA rfl (by simp [q0, z0, z1]; exact ⟨rfl, rfl⟩) (by simp [q0, z0, z1]; rfl) (by exact eqToldS_spec _ (by first | assumption | simp [Row.sz])) (by simp) (by simp [q0, z0, z1]; rfl)) ?_
    refine RegO.opN 1 (by simp [q0, z0, z1]; rfl) ?_
    refine RegO.nil ?_
    refine DW.norm [(0, _), (1, _), (6, _), (7, _), (8, _), (35, _)] [(21, _), (23, _), (26, _)] [] (by simp [q0, z0, z1]; exact ⟨rfl, rfl, rfl, rfl, rfl, rfl⟩) (by simp [q0, z0, z1]; exact ⟨rfl, rfl, rfl⟩) (by simp [q0, z0, z1]) (by rfl) ?_
    refine DW.condF (by simp [q0, z0, z1]) ?_
    refine DW.skip ?_
    refine DW.seq ?_
    refine DW.reg (by simp [q0, z0, z1]; rfl) ?_
    refine DW.norm [(0, _), (1, _), (6, _), (7, _), (8, _), (9, _)] [(21, _), (23, _), (26, _)] [] (by simp [q0, z0, z1]; exact ⟨rfl, rfl, rfl, rfl, rfl, rfl⟩) (by simp [q0, z0, z1]; exact ⟨rfl, rfl, rfl⟩) (by simp [q0, z0, z1]) (by rfl) ?_
    refine DW.seq ?_
    refine DW.regs ?_
    refine RegO.opN 2 (by simp [q0, z0, z1]; rfl) ?_
    refine RegO.step rfl (OpStep.callL (io := 0) rfl (by simp [q0, z0, z1]; rfl) (markToldS_spec l (1) (by omega) (by omega) (by assumption)) (by rfl) (by rfl) (by rfl) (by rfl) (by simp [lendL, FS.lend, q0, z0, z1]; exact ⟨rfl, rfl⟩) (by simp) (by simp) (by simp [q0, z0, z1]; rfl) (by simp [rosOk]) (by simp) (by simp [backFS, hBack, pzsC, pzS, paCells, PC.tree, q0, z0, z1]; rfl)) ?_
    refine RegO.opN 1 (by simp [q0, z0, z1]; rfl) ?_
    refine RegO.nil ?_
    refine DW.norm [(0, _), (1, _), (6, _), (8, _), (9, _)] [(21, _), (26, _)] [] (by simp [q0, z0, z1]; exact ⟨rfl, rfl, rfl, rfl, rfl⟩) (by simp [q0, z0, z1]; exact ⟨rfl, rfl⟩) (by simp [q0, z0, z1]) (by rfl) ?_
    refine DW.seq ?_
    refine DW.seq ?_
    refine DW.regs ?_
    refine RegO.opN 5 (by simp [q0, z0, z1]; rfl) ?_
    refine RegO.guard (b := true) (by simp [q0, z0, z1]) (fun _ => ⟨_, (OpStep.callA rfl (by simp [q0, z0, z1]; exact ⟨rfl, rfl⟩) (by simp [q0, z0, z1]; rfl) (by exact eqResultS_spec _ (by first | assumption | simp [Row.sz])) (by simp) (by simp [q0, z0, z1]; rfl)).toE, fun _ e => e ▸ ?_⟩) (fun h => by cases h)
    refine RegO.opN 2 (by simp [q0, z0, z1]; rfl) ?_
    refine RegO.nil ?_
    refine DW.norm [(0, _), (1, _), (6, _), (8, _), (46, _)] [(21, _), (26, _)] [] (by simp [q0, z0, z1]; exact ⟨rfl, rfl, rfl, rfl, rfl⟩) (by simp [q0, z0, z1]; exact ⟨rfl, rfl⟩) (by simp [q0, z0, z1]) (by rfl) ?_
    refine DW.condF (by simp [q0, z0, z1]) ?_
    refine DW.skip ?_
    refine DW.seq ?_
    refine DW.reg (by simp [q0, z0, z1]; rfl) ?_
    refine DW.norm [(0, _), (1, _), (6, _), (8, _), (10, _)] [(21, _), (26, _)] [] (by simp [q0, z0, z1]; exact ⟨rfl, rfl, rfl, rfl, rfl⟩) (by simp [q0, z0, z1]; exact ⟨rfl, rfl⟩) (by simp [q0, z0, z1]) (by rfl) ?_
    refine DW.seq ?_
    refine DW.regs ?_
    refine RegO.opN 2 (by simp [q0, z0, z1]; rfl) ?_
    refine RegO.step rfl (OpStep.callL (io := 0) rfl (by simp [q0, z0, z1]; rfl) (markResultS_spec (toldTo l t) (1) (by omega) (by omega) (by assumption)) (by rfl) (by rfl) (by rfl) (by rfl) (by simp [lendL, FS.lend, q0, z0, z1]; exact ⟨rfl, rfl⟩) (by simp) (by simp) (by simp [q0, z0, z1]; rfl) (by simp [rosOk]) (by simp) (by simp [backFS, hBack, pzsC, pzS, paCells, PC.tree, q0, z0, z1]; rfl)) ?_
    refine RegO.opN 1 (by simp [q0, z0, z1]; rfl) ?_
    refine RegO.nil ?_
    refine DW.norm [(0, _), (1, _), (6, _), (8, _), (10, _)] [(21, _), (26, _)] [] (by simp [q0, z0, z1]; exact ⟨rfl, rfl, rfl, rfl, rfl⟩) (by simp [q0, z0, z1]; exact ⟨rfl, rfl⟩) (by simp [q0, z0, z1]) (by rfl) ?_
    refine DW.seq ?_
    refine DW.reg (by simp [q0, z0, z1]; rfl) ?_
    refine DW.norm [(0, _), (1, _), (6, _), (8, _), (10, _), (11, _)] [(21, _), (26, _)] [] (by simp [q0, z0, z1]; exact ⟨rfl, rfl, rfl, rfl, rfl, rfl⟩) (by simp [q0, z0, z1]; exact ⟨rfl, rfl⟩) (by simp [q0, z0, z1]) (by rfl) ?_
    refine DW.seq ?_
    refine DW.regs ?_
    refine RegO.opN 2 (by simp [q0, z0, z1]; rfl) ?_
    refine RegO.step rfl (OpStep.callA rfl (by simp [q0, z0, z1]; exact ⟨rfl, rfl⟩) (by simp [q0, z0, z1]; rfl) (by exact heldResultS_spec (toldTo l t) (1) (by omega) (by omega) (by assumption)) (by simp) (by simp [q0, z0, z1]; rfl)) ?_
    refine RegO.opN 1 (by simp [q0, z0, z1]; rfl) ?_
    refine RegO.nil ?_
    refine DW.norm [(0, _), (1, _), (6, _), (8, _), (10, _), (11, _)] [(21, _), (26, _)] [] (by simp [q0, z0, z1]; exact ⟨rfl, rfl, rfl, rfl, rfl, rfl⟩) (by simp [q0, z0, z1]; exact ⟨rfl, rfl⟩) (by simp [q0, z0, z1]) (by rfl) ?_
    refine DW.seq ?_
    refine DW.seq ?_
    refine DW.reg (by simp [q0, z0, z1]; rfl) ?_
    refine DW.norm [(0, _), (1, _), (6, _), (8, _), (10, _), (11, _), (54, _)] [(21, _), (26, _)] [] (by simp [q0, z0, z1]; exact ⟨rfl, rfl, rfl, rfl, rfl, rfl, rfl⟩) (by simp [q0, z0, z1]; exact ⟨rfl, rfl⟩) (by simp [q0, z0, z1]) (by rfl) ?_
    refine DW.condF (by simp [q0, z0, z1]) ?_
    refine DW.skip ?_
    refine DW.seq ?_
    refine DW.seq ?_
    refine DW.reg (by simp [q0, z0, z1]; rfl) ?_
    refine DW.norm [(0, _), (1, _), (6, _), (8, _), (10, _), (57, _)] [(21, _), (26, _)] [] (by simp [q0, z0, z1]; exact ⟨rfl, rfl, rfl, rfl, rfl, rfl⟩) (by simp [q0, z0, z1]; exact ⟨rfl, rfl⟩) (by simp [q0, z0, z1]) (by rfl) ?_
    refine DW.condF (by simp [q0, z0, z1]) ?_
    refine DW.skip ?_
    refine DW.seq ?_
    refine DW.regs ?_
    refine RegO.opN 1 (by simp [q0, z0, z1]; rfl) ?_
    refine RegO.step rfl (OpStep.callA rfl (by simp [q0, z0, z1]; exact ⟨rfl, rfl⟩) (by simp [q0, z0, z1]; rfl) (by exact toToldS_spec _ (by first | assumption | simp [Row.sz])) (by simp) (by simp [q0, z0, z1]; rfl)) ?_
    refine RegO.opN 1 (by simp [q0, z0, z1]; rfl) ?_
    refine RegO.step rfl (OpStep.callA rfl (by simp [q0, z0, z1]; exact ⟨rfl, rfl⟩) (by simp [q0, z0, z1]; rfl) (by exact implToldTo_spec _ _ (by assumption)) (by simp) (by simp [q0, z0, z1]; rfl)) ?_
    refine RegO.opN 1 (by simp [q0, z0, z1]; rfl) ?_
    refine RegO.nil ?_
    refine DW.norm [(6, _), (8, _), (10, _), (12, _)] [(21, _), (26, _), (61, _)] [] (by simp [q0, z0, z1]; exact ⟨rfl, rfl, rfl, rfl⟩) (by simp [q0, z0, z1]; exact ⟨rfl, rfl, rfl⟩) (by simp [q0, z0, z1]) (by rfl) ?_
    refine DW.seq ?_
    refine DW.seq ?_
    refine DW.regs ?_
    refine RegO.opN 2 (by simp [q0, z0, z1]; rfl) ?_
    refine RegO.step rfl (OpStep.callA rfl (by simp [q0, z0, z1]; exact ⟨rfl, rfl⟩) (by simp [q0, z0, z1]; rfl) (by exact eqResultS_spec _ (by first | assumption | simp [Row.sz])) (by simp) (by simp [q0, z0, z1]; rfl)) ?_
    refine RegO.opN 1 (by simp [q0, z0, z1]; rfl) ?_
    refine RegO.nil ?_
    refine DW.norm [(8, _), (10, _), (65, _)] [(26, _)] [] (by simp [q0, z0, z1]; exact ⟨rfl, rfl, rfl⟩) (by simp [q0, z0, z1]; rfl) (by simp [q0, z0, z1]) (by rfl) ?_
    refine DW.condF (by simp [q0, z0, z1]) ?_
    refine DW.skip ?_
    refine DW.seq ?_
    refine DW.reg (by simp [q0, z0, z1]; rfl) ?_
    refine DW.norm [(8, _), (10, _), (11, _)] [(26, _)] [] (by simp [q0, z0, z1]; exact ⟨rfl, rfl, rfl⟩) (by simp [q0, z0, z1]; rfl) (by simp [q0, z0, z1]) (by rfl) ?_
    refine DW.seq ?_
    refine DW.regs ?_
    refine RegO.opN 2 (by simp [q0, z0, z1]; rfl) ?_
    refine RegO.step rfl (OpStep.callA rfl (by simp [q0, z0, z1]; exact ⟨rfl, rfl⟩) (by simp [q0, z0, z1]; rfl) (by exact heldResultS_spec (toldTo l t) (1) (by omega) (by omega) (by assumption)) (by simp) (by simp [q0, z0, z1]; rfl)) ?_
    refine RegO.opN 1 (by simp [q0, z0, z1]; rfl) ?_
    refine RegO.nil ?_
    refine DW.norm [(10, _), (11, _)] [] [] (by simp [q0, z0, z1]; exact ⟨rfl, rfl⟩) (by simp [q0, z0, z1]) (by simp [q0, z0, z1]) (by rfl) ?_
    refine DW.seq ?_
    refine DW.seq ?_
    refine DW.reg (by simp [q0, z0, z1]; rfl) ?_
    refine DW.norm [(10, _), (11, _), (70, _)] [] [] (by simp [q0, z0, z1]; exact ⟨rfl, rfl, rfl⟩) (by simp [q0, z0, z1]) (by simp [q0, z0, z1]) (by rfl) ?_
    refine DW.condF (by simp [q0, z0, z1]) ?_
    refine DW.skip ?_
    refine DW.seq ?_
    refine DW.seq ?_
    refine DW.reg (by simp [q0, z0, z1]; rfl) ?_
    refine DW.norm [(73, _)] [] [] (by simp [q0, z0, z1]; rfl) (by simp [q0, z0, z1]) (by simp [q0, z0, z1]) (by rfl) ?_
    refine DW.condF (by simp [q0, z0, z1]) ?_
    refine DW.skip ?_
    refine DW.seq ?_
    refine DW.reg (by simp [q0, z0, z1]; rfl) ?_
    refine DW.norm [(4, _)] [] [] (by simp [q0, z0, z1]; rfl) (by simp [q0, z0, z1]) (by simp [q0, z0, z1]) (by rfl) ?_
    refine DW.ret ?_
    simp [Try.results7]
end Go.Proofs.Ytjjdjkkhhcbogaa.DM
