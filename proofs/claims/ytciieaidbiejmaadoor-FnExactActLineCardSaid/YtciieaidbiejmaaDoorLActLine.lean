import Derived.Test.YtciieaidbiejmaaDoorFActFam
import Derived.Test.YtciieaidbiejmaaDoorLT7
namespace Go.Proofs.YtciieaidbiejmaaDoor.DM
set_option linter.unusedVariables false
set_option linter.unusedSimpArgs false
set_option maxRecDepth 4000
set_option maxHeartbeats 8000000
theorem FnExactActLine_spec (a : Act) (ho0 : Row.ok 281474976710656 a) : Spec Tryd.prog 4 [raAct a] [none] [db true] [raAct a] := by
  refine Spec.intro Tryd.func4 rfl rfl Tryd.ntmps4 rfl (by simp) ?_
  refine DW.seq ?_
  refine DW.reg (by simp; rfl) ?_
  refine DW.norm [(1, _)] [(1, _)] [] (by simp; rfl) (by simp; rfl) (by simp) (by rfl) ?_
  refine DW.seq ?_
  refine DW.reg (by simp; rfl) ?_
  refine DW.norm [(1, _), (3, _)] [(1, _)] [] (by simp; exact ⟨rfl, rfl⟩) (by simp; rfl) (by simp) (by rfl) ?_
  refine DW.seq ?_
  refine DW.regs ?_
  refine RegO.opN 2 (by simp; rfl) ?_
  refine RegO.step rfl (OpStep.callA rfl (by simp; exact ⟨rfl, rfl⟩) (by simp; rfl) (by exact szAct_spec _ _ (by omega) (by omega) ho0) (by simp) (by simp; rfl)) ?_
  refine RegO.opN 1 (by simp; rfl) ?_
  refine RegO.nil ?_
  refine DW.norm [(1, _), (3, _)] [(1, _)] [] (by simp; exact ⟨rfl, rfl⟩) (by simp; rfl) (by simp) (by rfl) ?_
  refine DW.seq ?_
  refine DW.seq ?_
  refine DW.reg (by simp; rfl) ?_
  refine DW.norm [(1, _), (10, _)] [(1, _)] [] (by simp; exact ⟨rfl, rfl⟩) (by simp; rfl) (by simp) (by rfl) ?_
  refine DW.condB (by simp; exact rfl) (fun hc0 => ?_) (fun hc0 => ?_)
  · have hn0 : 1048576 - (Row.sz a : Int) < 0 := by simpa using hc0
    refine DW.seq ?_
    refine DW.reg (by simp; rfl) ?_
    refine DW.norm [(2, _)] [] [] (by simp; rfl) (by simp) (by simp) (by rfl) ?_
    refine DW.ret ?_
    simp [Tryd.results4]
  · have hn0 : ¬ (1048576 - (Row.sz a : Int) < 0) := by simpa using hc0
    have q0 : szr (1048576 - (Row.sz a : Int)) = 1048576 - (Row.sz a : Int) := szr_pos (by omega)
    have h0 : Row.sz a ≤ 2 ^ 36 := by omega
    have hok := ho0
    rw [Act_ok] at hok
    obtain ⟨-, hTen, hoA, hPic⟩ := hok
    rw [Ask_ok] at hoA
    obtain ⟨-, -, -, hOff, hLen, -⟩ := hoA
    refine DW.skip ?_
    refine DW.seq ?_
    refine DW.regs ?_
    refine RegO.opN 1 (by simp [q0]; rfl) ?_
    refine RegO.step rfl (OpStep.callA rfl (by simp [q0]; exact ⟨rfl, rfl⟩) (by simp [q0]; rfl) (by exact toAct_spec _ (by first | assumption | simp [Row.sz])) (by simp) (by simp [q0]; rfl)) ?_
    refine RegO.step rfl (OpStep.callA rfl (by simp [q0]; exact ⟨rfl, rfl⟩) (by simp [q0]; rfl) (by exact specActLine_spec a h0 hOff hLen hTen hPic) (by simp) (by simp [q0]; rfl)) ?_
    refine RegO.opN 1 (by simp [q0]; rfl) ?_
    refine RegO.nil ?_
    refine DW.norm [(1, _), (4, _)] [(1, _)] [] (by simp [q0]; exact ⟨rfl, rfl⟩) (by simp [q0]; rfl) (by simp [q0]) (by rfl) ?_
    refine DW.seq ?_
    refine DW.regs ?_
    refine RegO.opN 1 (by simp [q0]; rfl) ?_
    refine RegO.step rfl (OpStep.callA rfl (by simp [q0]; exact ⟨rfl, rfl⟩) (by simp [q0]; rfl) (by exact toAct_spec _ (by first | assumption | simp [Row.sz])) (by simp) (by simp [q0]; rfl)) ?_
    refine RegO.step rfl (OpStep.callA rfl (by simp [q0]; exact ⟨rfl, rfl⟩) (by simp [q0]; rfl) (by exact implActLine_spec a h0 hOff hLen hTen hPic) (by simp) (by simp [q0]; rfl)) ?_
    refine RegO.opN 1 (by simp [q0]; rfl) ?_
    refine RegO.nil ?_
    refine DW.norm [(4, _), (5, _)] [] [] (by simp [q0]; exact ⟨rfl, rfl⟩) (by simp [q0]) (by simp [q0]) (by rfl) ?_
    refine DW.seq ?_
    refine DW.seq ?_
    refine DW.reg (by simp [q0]; rfl) ?_
    refine DW.norm [(19, _)] [] [] (by simp [q0]; rfl) (by simp [q0]) (by simp [q0]) (by rfl) ?_
    refine DW.condF (by simp [q0]) ?_
    refine DW.skip ?_
    refine DW.seq ?_
    refine DW.reg (by simp [q0]; rfl) ?_
    refine DW.norm [(2, _)] [] [] (by simp [q0]; rfl) (by simp [q0]) (by simp [q0]) (by rfl) ?_
    refine DW.ret ?_
    simp [Tryd.results4]
end Go.Proofs.YtciieaidbiejmaaDoor.DM
