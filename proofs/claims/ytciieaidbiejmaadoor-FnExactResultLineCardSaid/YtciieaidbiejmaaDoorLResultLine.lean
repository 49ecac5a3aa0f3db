import Derived.Test.YtciieaidbiejmaaDoorFRlFam
import Derived.Test.YtciieaidbiejmaaDoorLT12
namespace Go.Proofs.YtciieaidbiejmaaDoor.DM
set_option linter.unusedVariables false
set_option linter.unusedSimpArgs false
set_option maxRecDepth 4000
set_option maxHeartbeats 8000000
theorem FnExactResultLine_spec (r : Result) (ho0 : Row.ok 281474976710656 r) : Spec Tryd.prog 5 [raResult r] [none] [db true] [raResult r] := by
  refine Spec.intro Tryd.func5 rfl rfl Tryd.ntmps5 rfl (by simp) ?_
  refine DW.seq ?_
  refine DW.reg (by simp; rfl) ?_
  refine DW.norm [(1, _)] [(1, _)] [] (by simp; rfl) (by simp; rfl) (by simp) (by rfl) ?_
  refine DW.seq ?_
  refine DW.reg (by simp; rfl) ?_
  refine DW.norm [(1, _), (3, _)] [(1, _)] [] (by simp; exact ⟨rfl, rfl⟩) (by simp; rfl) (by simp) (by rfl) ?_
  refine DW.seq ?_
  refine DW.regs ?_
  refine RegO.opN 2 (by simp; rfl) ?_
  refine RegO.step rfl (OpStep.callA rfl (by simp; exact ⟨rfl, rfl⟩) (by simp; rfl) (by exact szResult_spec _ _ (by omega) (by omega) ho0) (by simp) (by simp; rfl)) ?_
  refine RegO.opN 1 (by simp; rfl) ?_
  refine RegO.nil ?_
  refine DW.norm [(1, _), (3, _)] [(1, _)] [] (by simp; exact ⟨rfl, rfl⟩) (by simp; rfl) (by simp) (by rfl) ?_
  refine DW.seq ?_
  refine DW.seq ?_
  refine DW.reg (by simp; rfl) ?_
  refine DW.norm [(1, _), (11, _)] [(1, _)] [] (by simp; exact ⟨rfl, rfl⟩) (by simp; rfl) (by simp) (by rfl) ?_
  refine DW.condB (by simp; exact rfl) (fun hc0 => ?_) (fun hc0 => ?_)
  · have hn0 : 1048576 - (Row.sz r : Int) < 0 := by simpa using hc0
    refine DW.seq ?_
    refine DW.reg (by simp; rfl) ?_
    refine DW.norm [(2, _)] [] [] (by simp; rfl) (by simp) (by simp) (by rfl) ?_
    refine DW.ret ?_
    simp [Tryd.results5]
  · have hn0 : ¬ (1048576 - (Row.sz r : Int) < 0) := by simpa using hc0
    have q0 : szr (1048576 - (Row.sz r : Int)) = 1048576 - (Row.sz r : Int) := szr_pos (by omega)
    have h0 : Row.sz r ≤ 2 ^ 36 := by omega
    have hok := ho0
    rw [Result_ok] at hok
    obtain ⟨hC, -, hS, -⟩ := hok
    refine DW.skip ?_
    refine DW.seq ?_
    refine DW.regs ?_
    refine RegO.opN 1 (by simp [q0]; rfl) ?_
    refine RegO.step rfl (OpStep.callA rfl (by simp [q0]; exact ⟨rfl, rfl⟩) (by simp [q0]; rfl) (by exact toResult_spec _ (by first | assumption | simp [Row.sz])) (by simp) (by simp [q0]; rfl)) ?_
    refine RegO.step rfl (OpStep.callA rfl (by simp [q0]; exact ⟨rfl, rfl⟩) (by simp [q0]; rfl) (by exact specResultLine_spec r h0 hC hS) (by simp) (by simp [q0]; rfl)) ?_
    refine RegO.opN 1 (by simp [q0]; rfl) ?_
    refine RegO.nil ?_
    refine DW.norm [(1, _), (4, _)] [(1, _)] [] (by simp [q0]; exact ⟨rfl, rfl⟩) (by simp [q0]; rfl) (by simp [q0]) (by rfl) ?_
    refine DW.seq ?_
    refine DW.regs ?_
    refine RegO.opN 1 (by simp [q0]; rfl) ?_
    refine RegO.step rfl (OpStep.callA rfl (by simp [q0]; exact ⟨rfl, rfl⟩) (by simp [q0]; rfl) (by exact toResult_spec _ (by first | assumption | simp [Row.sz])) (by simp) (by simp [q0]; rfl)) ?_
    refine RegO.opN 2 (by simp [q0]; rfl) ?_
    refine RegO.nil ?_
    refine DW.norm [(1, _), (4, _), (5, _)] [(1, _), (5, _)] [] (by simp [q0]; exact ⟨rfl, rfl, rfl⟩) (by simp [q0]; exact ⟨rfl, rfl⟩) (by simp [q0]) (by rfl) ?_
    refine DW.seq ?_
    refine DW.regs ?_
    refine RegO.opN 1 (by simp [q0]; rfl) ?_
    refine RegO.step rfl (OpStep.callA rfl (by simp [q0]; exact ⟨rfl, rfl⟩) (by simp [q0]; rfl) (by exact implResultLine_spec r h0 hC hS) (by simp) (by simp [q0]; rfl)) ?_
    refine RegO.opN 1 (by simp [q0]; rfl) ?_
    refine RegO.nil ?_
    refine DW.norm [(1, _), (4, _), (5, _), (6, _)] [(1, _), (5, _)] [] (by simp [q0]; exact ⟨rfl, rfl, rfl, rfl⟩) (by simp [q0]; exact ⟨rfl, rfl⟩) (by simp [q0]) (by rfl) ?_
    refine DW.seq ?_
    refine DW.seq ?_
    refine DW.reg (by simp [q0]; rfl) ?_
    refine DW.norm [(1, _), (5, _), (21, _)] [(1, _), (5, _)] [] (by simp [q0]; exact ⟨rfl, rfl, rfl⟩) (by simp [q0]; exact ⟨rfl, rfl⟩) (by simp [q0]) (by rfl) ?_
    refine DW.condF (by simp [q0]) ?_
    refine DW.skip ?_
    refine DW.seq ?_
    refine DW.seq ?_
    refine DW.drawn mixed (by kernel_rfl) ?_
    refine RegD.addN 2 (by simp [q0]; (first | done | exact ⟨rfl, rfl⟩ | rfl)) ?_
    refine RegD.cert (Cert.callHA rfl (by simp) rfl (by decide) (by simp [q0]; exact ⟨rfl, rfl⟩) (by simp [q0]; rfl) (by exact toResult_spec _ (by first | assumption | simp [Row.sz])) rfl (by simp) (by simp) (by simp; rfl) rfl) ?_
    refine RegD.cert (Cert.callA rfl (by simp) rfl (by decide) (by simp [q0]; exact ⟨rfl, rfl⟩) (by simp [q0]; rfl) (by exact eqResult_spec _ (by first | assumption | simp [Row.sz])) rfl (by simp) (by simp; rfl) rfl) ?_
    refine RegD.addN 1 (by simp [q0]; (first | done | exact ⟨rfl, rfl⟩ | rfl)) ?_
    refine RegD.nil ⟨by kernel_rfl, ?_⟩
    refine DW.norm [(26, _)] [] [] (by simp [q0]; rfl) (by simp [q0]) (by simp [q0]) (by rfl) ?_
    refine DW.condF (by simp [q0]) ?_
    refine DW.skip ?_
    refine DW.seq ?_
    refine DW.reg (by simp [q0]; rfl) ?_
    refine DW.norm [(2, _)] [] [] (by simp [q0]; rfl) (by simp [q0]) (by simp [q0]) (by rfl) ?_
    refine DW.ret ?_
    simp [Tryd.results5]
end Go.Proofs.YtciieaidbiejmaaDoor.DM
