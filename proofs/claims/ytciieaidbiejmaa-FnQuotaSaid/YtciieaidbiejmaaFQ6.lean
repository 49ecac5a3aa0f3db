import Derived.Test.YtciieaidbiejmaaFQ5
namespace Go.Proofs.Ytciieaidbiejmaa.DM
set_option linter.unusedVariables false
set_option linter.unusedSimpArgs false
set_option maxRecDepth 4000
set_option maxHeartbeats 8000000
theorem freePages_spec (g : Geo) (l : List Item) (hg : geoG g) (hs : Small l) (hf : Fits g l) : Spec Try.prog 10 [raGeo g, raV l] [none] [di (g.Quota - pagesIn l)] [raGeo g, raV l] := by
  refine Spec.intro Try.func10 rfl rfl Try.ntmps10 rfl (by simp) ?_
  have hs1 := hs.1
  obtain ⟨q1, q2, q3, q4, q5, q6, q7, q8⟩ := id hg
  obtain ⟨f1, f2⟩ := hf
  have hL0 := rD_len_Item l
  have hwp : IntKind.i64.wrap (g.Quota - (pagesIn l : Int)) = g.Quota - (pagesIn l : Int) := wr _ (by omega) (by omega)
  have hmx : max 0 (g.Quota - (pagesIn l : Int)) = g.Quota - (pagesIn l : Int) := by omega
  refine DW.seq ?_
  refine DW.reg (by simp (maxSteps := 200000) (disch := first | omega | (simp; done) | fail) [wrapI, leT, leF, ltT, ltF, eqF, nleT, nleF, nltT, nltF]; rfl) ?_
  refine DW.seq ?_
  refine DW.seq ?_
  refine DW.regs ?_
  refine RegO.opN 1 (by simp (maxSteps := 200000) (disch := first | omega | (simp; done) | fail) [wrapI, leT, leF, ltT, ltF, eqF, nleT, nleF, nltT, nltF]; rfl) ?_
  refine RegO.step rfl (OpStep.callA rfl (by simp (maxSteps := 200000) (disch := first | omega | (simp; done) | fail) [wrapI, leT, leF, ltT, ltF, eqF, nleT, nleF, nltT, nltF]; exact ⟨rfl, rfl⟩) (by simp (maxSteps := 200000) (disch := first | omega | (simp; done) | fail) [wrapI, leT, leF, ltT, ltF, eqF, nleT, nleF, nltT, nltF]; rfl) (by exact implGeoOk_true g hg) (by simp) (by simp (maxSteps := 200000) (disch := first | omega | (simp; done) | fail) [wrapI, leT, leF, ltT, ltF, eqF, nleT, nleF, nltT, nltF]; rfl)) ?_
  refine RegO.opN 1 (by simp (maxSteps := 200000) (disch := first | omega | (simp; done) | fail) [wrapI, leT, leF, ltT, ltF, eqF, nleT, nleF, nltT, nltF]; rfl) ?_
  refine RegO.nil ?_
  refine DW.condF (by simp (maxSteps := 200000) (disch := first | omega | (simp; done) | fail) [wrapI, leT, leF, ltT, ltF, eqF, nleT, nleF, nltT, nltF]) ?_
  refine DW.skip ?_
  refine DW.seq ?_
  refine DW.drawn mixed (by kernel_rfl) ?_
  refine RegD.cert (cert_of_addF (by simp [hwp]; rfl)) ?_
  refine RegD.cert (cert_of_addF (by simp [hwp]; rfl)) ?_
  refine RegD.cert (cert_of_addF (by simp [hwp]; rfl)) ?_
  refine RegD.cert (Cert.callA rfl (by simp) rfl (by decide) (by simp [hwp]; exact ⟨rfl, rfl⟩) (by simp [hwp]; rfl) (by exact implPagesIn_spec l hs) rfl (by simp) (by simp; rfl) rfl) ?_
  refine RegD.cert (cert_of_addF (by simp [hwp]; rfl)) ?_
  refine RegD.heavy (.inl ⟨by simp [wantedD], OpStep.maxI rfl rfl (by decide) (by simp [hwp]; rfl) (by simp [hwp]; rfl)⟩) ?_
  refine RegD.heavyF (by simp) (by simp [hwp, hmx]; rfl) ?_
  refine RegD.nil ⟨by kernel_rfl, ?_⟩
  refine DW.ret ?_
  simp [Try.results10, hmx]
theorem freeItems_spec (g : Geo) (l : List Item) (hg : geoG g) (hs : Small l) (hf : Fits g l) : Spec Try.prog 12 [raGeo g, raV l] [none] [di (g.Inodes - 1 - l.length)] [raGeo g, raV l] := by
  refine Spec.intro Try.func12 rfl rfl Try.ntmps12 rfl (by simp) ?_
  have hs1 := hs.1
  obtain ⟨q1, q2, q3, q4, q5, q6, q7, q8⟩ := id hg
  obtain ⟨f1, f2⟩ := hf
  have hL0 := rD_len_Item l
  have hw1 : IntKind.i64.wrap (g.Inodes - 1) = g.Inodes - 1 := wr _ (by omega) (by omega)
  have hwp : IntKind.i64.wrap (g.Inodes - 1 - (l.length : Int)) = g.Inodes - 1 - (l.length : Int) := wr _ (by omega) (by omega)
  have hmx : max 0 (g.Inodes - 1 - (l.length : Int)) = g.Inodes - 1 - (l.length : Int) := by omega
  refine DW.seq ?_
  refine DW.reg (by simp (maxSteps := 200000) (disch := first | omega | (simp; done) | fail) [wrapI, leT, leF, ltT, ltF, eqF, nleT, nleF, nltT, nltF, hw1, hwp, hmx]; rfl) ?_
  refine DW.seq ?_
  refine DW.seq ?_
  refine DW.regs ?_
  refine RegO.opN 1 (by simp (maxSteps := 200000) (disch := first | omega | (simp; done) | fail) [wrapI, leT, leF, ltT, ltF, eqF, nleT, nleF, nltT, nltF, hw1, hwp, hmx]; rfl) ?_
  refine RegO.step rfl (OpStep.callA rfl (by simp (maxSteps := 200000) (disch := first | omega | (simp; done) | fail) [wrapI, leT, leF, ltT, ltF, eqF, nleT, nleF, nltT, nltF, hw1, hwp, hmx]; exact ⟨rfl, rfl⟩) (by simp (maxSteps := 200000) (disch := first | omega | (simp; done) | fail) [wrapI, leT, leF, ltT, ltF, eqF, nleT, nleF, nltT, nltF, hw1, hwp, hmx]; rfl) (by exact implGeoOk_true g hg) (by simp) (by simp (maxSteps := 200000) (disch := first | omega | (simp; done) | fail) [wrapI, leT, leF, ltT, ltF, eqF, nleT, nleF, nltT, nltF, hw1, hwp, hmx]; rfl)) ?_
  refine RegO.opN 1 (by simp (maxSteps := 200000) (disch := first | omega | (simp; done) | fail) [wrapI, leT, leF, ltT, ltF, eqF, nleT, nleF, nltT, nltF, hw1, hwp, hmx]; rfl) ?_
  refine RegO.nil ?_
  refine DW.condF (by simp (maxSteps := 200000) (disch := first | omega | (simp; done) | fail) [wrapI, leT, leF, ltT, ltF, eqF, nleT, nleF, nltT, nltF, hw1, hwp, hmx]) ?_
  refine DW.skip ?_
  refine DW.seq ?_
  refine DW.regs ?_
  refine RegO.opN 7 (by simp (maxSteps := 200000) (disch := first | omega | (simp; done) | fail) [wrapI, leT, leF, ltT, ltF, eqF, nleT, nleF, nltT, nltF, hw1, hwp, hmx]; rfl) ?_
  refine RegO.step rfl (OpStep.maxI rfl rfl (by decide) (by simp (maxSteps := 200000) (disch := first | omega | (simp; done) | fail) [wrapI, leT, leF, ltT, ltF, eqF, nleT, nleF, nltT, nltF, hw1, hwp, hmx]; rfl) (by simp (maxSteps := 200000) (disch := first | omega | (simp; done) | fail) [wrapI, leT, leF, ltT, ltF, eqF, nleT, nleF, nltT, nltF, hw1, hwp, hmx]; rfl)) ?_
  refine RegO.opN 1 (by simp (maxSteps := 200000) (disch := first | omega | (simp; done) | fail) [wrapI, leT, leF, ltT, ltF, eqF, nleT, nleF, nltT, nltF, hw1, hwp, hmx]; rfl) ?_
  refine RegO.nil ?_
  refine DW.ret ?_
  simp [Try.results12, hw1, hwp, hmx]
end Go.Proofs.Ytciieaidbiejmaa.DM
