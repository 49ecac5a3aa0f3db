import Derived.Test.YtjjdjkkhhcbogaaFV2
namespace Go.Proofs.Ytjjdjkkhhcbogaa.DM
set_option linter.unusedVariables false
set_option linter.unusedSimpArgs false
set_option maxRecDepth 4000
set_option maxHeartbeats 8000000
theorem drawDurable_ex (code : List UInt8) (hc : code.length < 2 ^ 62) : ∃ ds az, (∃ l : List Write, ds = [dr l] ∧ az = [ra code] ∧ l.length ≤ 17 ∧ ∀ w ∈ l, okW w) ∧ Spec Try.prog 37 [ra code] [none] ds az := by
  refine Spec.introX Try.func37 rfl rfl Try.ntmps37 rfl (by simp) ?_
  obtain ⟨ds0, az0, ⟨l, c1, rfl, rfl, kc1, hl, hall⟩, hL⟩ := l20Any_ex (newC code) (newC_ok hc)
  have hT := rD_take_Write l
  have hTl := rD_len_Write l
  refine DX.seq ?_
  refine DX.reg (by simp (maxSteps := 200000) (disch := first | omega | (simp; done) | fail) [wrapI, leT, leF, ltT, ltF, eqF, nleT, nleF, nltT, nltF, mapV, pzR, inR]; rfl) ?_
  refine DX.seq ?_
  refine DX.regs ?_
  refine RegOX.opN 1 (by simp (maxSteps := 200000) (disch := first | omega | (simp; done) | fail) [wrapI, leT, leF, ltT, ltF, eqF, nleT, nleF, nltT, nltF, mapV, pzR, inR]; rfl) ?_
  refine RegOX.step rfl (OpStep.callB (az := [ra code]) rfl rfl (by decide) (by simp) (by simp [callArgs]; rfl) (l01New_spec code hc) (by simp [rosOk, roA_, toRC, mapO]) (by simp [widen, ownV, ownC])) ?_
  refine RegOX.step rfl (OpStep.callP (io := 0) (id := 4) (off := 0) (p := []) (sz := 3) (n := 1) (cs0 := curD (newC code)) rfl (by simp [callArgs]; rfl) hL (by simp) rfl rfl (by simp) rfl (by simp) (by simp) (by simp) (by simp [callArgs, FS.lend]; rfl) (by simp [rosOk, roA_, toRC, mapO]) (by simp [widen, ownV, ownC]) (by simp [finish, packDV, packD, ptBack]; rfl)) ?_
  refine RegOX.opN 1 (by simp (maxSteps := 200000) (disch := first | omega | (simp; done) | fail) [wrapI, leT, leF, ltT, ltF, eqF, nleT, nleF, nltT, nltF, mapV, pzR, inR]; rfl) ?_
  refine RegOX.nil ?_
  refine DX.ret ?_
  refine ⟨_, _, ⟨l, rfl, rfl, hl, hall⟩, ?_⟩
  simp [Try.results37, mapV, pzR, inR, hT, hTl]
end Go.Proofs.Ytjjdjkkhhcbogaa.DM
