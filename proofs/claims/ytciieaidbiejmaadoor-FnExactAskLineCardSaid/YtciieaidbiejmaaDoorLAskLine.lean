import Derived.Test.YtciieaidbiejmaaDoorFAskFam
import Derived.Test.YtciieaidbiejmaaDoorLT5
import Derived.Test.YtciieaidbiejmaaDoorLT6
namespace Go.Proofs.YtciieaidbiejmaaDoor.DM
set_option linter.unusedVariables false
set_option linter.unusedSimpArgs false
set_option maxRecDepth 4000
set_option maxHeartbeats 8000000
theorem FnExactAskLine_spec (a : Ask) (ho0 : Row.ok 281474976710656 a) : Spec Tryd.prog 3 [raAsk a] [none] [db true] [raAsk a] := by
  refine Spec.intro Tryd.func3 rfl rfl Tryd.ntmps3 rfl (by simp) ?_
  refine DW.seq ?_
  refine DW.reg (by simp; rfl) ?_
  refine DW.norm [(1, _)] [(1, _)] [] (by simp; rfl) (by simp; rfl) (by simp) (by rfl) ?_
  refine DW.seq ?_
  refine DW.reg (by simp; rfl) ?_
  refine DW.norm [(1, _), (3, _)] [(1, _)] [] (by simp; exact ⟨rfl, rfl⟩) (by simp; rfl) (by simp) (by rfl) ?_
  refine DW.seq ?_
  refine DW.regs ?_
  refine RegO.opN 2 (by simp; rfl) ?_
  refine RegO.step rfl (OpStep.callA rfl (by simp; exact ⟨rfl, rfl⟩) (by simp; rfl) (by exact szAsk_spec _ _ (by omega) (by omega) ho0) (by simp) (by simp; rfl)) ?_
  refine RegO.opN 1 (by simp; rfl) ?_
  refine RegO.nil ?_
  refine DW.norm [(1, _), (3, _)] [(1, _)] [] (by simp; exact ⟨rfl, rfl⟩) (by simp; rfl) (by simp) (by rfl) ?_
  refine DW.seq ?_
  refine DW.seq ?_
  refine DW.reg (by simp; rfl) ?_
  refine DW.norm [(1, _), (10, _)] [(1, _)] [] (by simp; exact ⟨rfl, rfl⟩) (by simp; rfl) (by simp) (by rfl) ?_
  refine DW.condB (by simp; exact rfl) (fun hc0 => ?_) (fun hc0 => ?_)
  · have hn0 : 1048576 - (Row.sz a : Int) < 0 := by simpa using hc0
    refine DW.seq ?_
    refine DW.reg (by simp; rfl) ?_
    refine DW.norm [(2, _)] [] [] (by simp; rfl) (by simp) (by simp) (by rfl) ?_
    refine DW.ret ?_
    simp [Tryd.results3]
  · have hn0 : ¬ (1048576 - (Row.sz a : Int) < 0) := by simpa using hc0
    have q0 : szr (1048576 - (Row.sz a : Int)) = 1048576 - (Row.sz a : Int) := szr_pos (by omega)
    have h0 : Row.sz a ≤ 2 ^ 36 := by omega
    have hok := ho0
    rw [Ask_ok] at hok
    obtain ⟨-, -, -, hOff, hLen, -⟩ := hok
    refine DW.skip ?_
    refine DW.seq ?_
    refine DW.regs ?_
    refine RegO.opN 1 (by simp [q0]; rfl) ?_
    refine RegO.step rfl (OpStep.callA rfl (by simp [q0]; exact ⟨rfl, rfl⟩) (by simp [q0]; rfl) (by exact toAsk_spec _ (by first | assumption | simp [Row.sz])) (by simp) (by simp [q0]; rfl)) ?_
    refine RegO.step rfl (OpStep.callA rfl (by simp [q0]; exact ⟨rfl, rfl⟩) (by simp [q0]; rfl) (by exact specAskLine_spec a h0 hOff hLen) (by simp) (by simp [q0]; rfl)) ?_
    refine RegO.opN 1 (by simp [q0]; rfl) ?_
    refine RegO.nil ?_
    refine DW.norm [(1, _), (4, _)] [(1, _)] [] (by simp [q0]; exact ⟨rfl, rfl⟩) (by simp [q0]; rfl) (by simp [q0]) (by rfl) ?_
    refine DW.seq ?_
    refine DW.regs ?_
    refine RegO.opN 1 (by simp [q0]; rfl) ?_
    refine RegO.step rfl (OpStep.callA rfl (by simp [q0]; exact ⟨rfl, rfl⟩) (by simp [q0]; rfl) (by exact toAsk_spec _ (by first | assumption | simp [Row.sz])) (by simp) (by simp [q0]; rfl)) ?_
    refine RegO.step rfl (OpStep.callA rfl (by simp [q0]; exact ⟨rfl, rfl⟩) (by simp [q0]; rfl) (by exact implAskLine_spec a h0 hOff hLen) (by simp) (by simp [q0]; rfl)) ?_
    refine RegO.opN 1 (by simp [q0]; rfl) ?_
    refine RegO.nil ?_
    refine DW.norm [(4, _), (5, _)] [] [] (by simp [q0]; exact ⟨rfl, rfl⟩) (by simp [q0]) (by simp [q0]) (by rfl) ?_
    refine DW.seq ?_
    refine DW.seq ?_
    refine DW.reg (by simp [q0]; rfl) ?_
    refine DW.norm [(19, _)] [] [] (by simp [q0]; rfl) (by simp [q0]) (by simp [q0]) (by rfl) ?_
    refine DW.condF (by simp [q0]) ?_
    refine DW.skip ?_
    refine DW.seq ?_
    refine DW.reg (by simp [q0]; rfl) ?_
    refine DW.norm [(2, _)] [] [] (by simp [q0]; rfl) (by simp [q0]) (by simp [q0]) (by rfl) ?_
    refine DW.ret ?_
    simp [Tryd.results3]
end Go.Proofs.YtciieaidbiejmaaDoor.DM
