import Derived.Test.YtjjdjkkhhcbogaaGreatFG16
namespace Go.Proofs.YtjjdjkkhhcbogaaGreat.DM
set_option linter.unusedVariables false
set_option linter.unusedSimpArgs false
set_option maxRecDepth 4000
set_option maxHeartbeats 8000000
def jobZ : Job := ⟨⟨0, ByteArray.empty, ByteArray.empty, 0, 0, ByteArray.empty⟩, ⟨0, ByteArray.empty, 0, false, []⟩, [], [], 0, false, false⟩
def sysV (g : Geo) : System := if geoOk g = true then ⟨g, fmtM g, List.replicate g.Tenants.toNat jobZ, []⟩ else ⟨⟨0, 0, 0, 0⟩, ⟨ByteArray.empty, []⟩, [], []⟩
def worldV (g : Geo) : World := if geoOk g = true then ⟨sysV g, List.replicate g.Tenants.toNat ⟨[]⟩, List.replicate g.Tenants.toNat ⟨[]⟩, 0⟩ else ⟨⟨⟨0, 0, 0, 0⟩, ⟨ByteArray.empty, []⟩, [], []⟩, [], [], 0⟩

theorem specSystemNew_spec (g : Geo) : Spec Tryz.prog 24 [raGeo g] [some 8, none] (System.d (sysV g) ++ [db (geoOk g)]) [raGeo g] := by
  refine Spec.intro Tryz.func24 rfl rfl Tryz.ntmps24 rfl (by simp) ?_
  refine DW.seq ?_
  refine DW.reg (by simp (maxSteps := 200000) (disch := first | omega | (simp; done) | fail) [wrapI, leT, leF, ltT, ltF, eqF, nleT, nleF, nltT, nltF]; rfl) ?_
  refine DW.seq ?_
  refine DW.seq ?_
  have hsp : (geoOk g = true ∧ g.Tenants = 1) ∨ (geoOk g = true ∧ g.Tenants = 2) ∨ (geoOk g = true ∧ g.Tenants = 3) ∨ geoOk g = false := by
    rcases Bool.eq_false_or_eq_true (geoOk g) with hgt | hgf
    · have hit := (geoIn hgt).t
      rcases (show g.Tenants = 1 ∨ g.Tenants = 2 ∨ g.Tenants = 3 by omega) with h | h | h <;> simp [hgt, h]
    · simp [hgf]
  rcases hsp with ⟨hgt, hq⟩ | ⟨hgt, hq⟩ | ⟨hgt, hq⟩ | hgf
  · obtain ⟨M, hM⟩ : ∃ M, M = fmtM g := ⟨_, rfl⟩
    have hF : Spec Tryz.prog 19 [.agg [.r (.sc (.int .i64 1)), .r (.sc (.int .i64 g.Pages)), .r (.sc (.int .i64 g.Inodes)), .r (.sc (.int .i64 g.Quota))]] [some 2] (dM M) [.agg [.r (.sc (.int .i64 1)), .r (.sc (.int .i64 g.Pages)), .r (.sc (.int .i64 g.Inodes)), .r (.sc (.int .i64 g.Quota))]] := by
      have h := hM ▸ specFormatMemory_spec g
      simpa only [raGeo, hq] using h
    have hfin : sysV g = ⟨g, M, [jobZ], []⟩ := by simp [sysV, hgt, hq, ← hM]
    refine DW.regs ?_
    refine RegO.opN 1 (by simp (maxSteps := 200000) (disch := first | omega | (simp; done) | fail) [wrapI, leT, leF, ltT, ltF, eqF, nleT, nleF, nltT, nltF, hgt]; rfl) ?_
    refine RegO.step rfl (OpStep.callA rfl (by simp (maxSteps := 200000) (disch := first | omega | (simp; done) | fail) [wrapI, leT, leF, ltT, ltF, eqF, nleT, nleF, nltT, nltF, hgt]; exact ⟨rfl, rfl⟩) (by simp (maxSteps := 200000) (disch := first | omega | (simp; done) | fail) [wrapI, leT, leF, ltT, ltF, eqF, nleT, nleF, nltT, nltF, hgt]; rfl) (by exact specGeoOk_spec _) (by simp) (by simp (maxSteps := 200000) (disch := first | omega | (simp; done) | fail) [wrapI, leT, leF, ltT, ltF, eqF, nleT, nleF, nltT, nltF, hgt]; rfl)) ?_
    refine RegO.opN 1 (by simp (maxSteps := 200000) (disch := first | omega | (simp; done) | fail) [wrapI, leT, leF, ltT, ltF, eqF, nleT, nleF, nltT, nltF, hgt]; rfl) ?_
    refine RegO.nil ?_
    refine DW.condF (by simp (maxSteps := 200000) (disch := first | omega | (simp; done) | fail) [wrapI, leT, leF, ltT, ltF, eqF, nleT, nleF, nltT, nltF, hgt]) ?_
    refine DW.skip ?_
    refine DW.seq ?_
    refine DW.drawn mixed (by kernel_rfl) ?_
    refine RegD.addN 2 (by simp [hgt, hq]; (first | (simp (disch := omega) only [wrapI]; done) | (simp (disch := omega) only [wrapI]; exact ⟨rfl, rfl⟩) | skip); (first | done | exact ⟨rfl, rfl⟩ | rfl)) ?_
    refine RegD.cert (Cert.callHA rfl (by simp) rfl (by decide) (by simp [hgt, hq]; exact ⟨rfl, rfl⟩) (by simp [hgt, hq]; rfl) (by exact hF) rfl (by simp) (by simp) (by simp; rfl) rfl) ?_
    refine RegD.addN 2 (by simp [hgt, hq]; (first | (simp (disch := omega) only [wrapI]; done) | (simp (disch := omega) only [wrapI]; exact ⟨rfl, rfl⟩) | skip); (first | done | exact ⟨rfl, rfl⟩ | rfl)) ?_
    refine RegD.cert (Cert.makeSlice (n := 1) rfl rfl rfl (by decide) (by simp; exact ⟨rfl, rfl⟩) (by simp; rfl) (by simp; rfl) (by rfl) (by decide) (by simp [hgt, hq]) (by simp [hgt, hq]) (by simp [hgt, hq]) (by simp [hgt, hq]) (by simp)) ?_
    refine RegD.addN 1 (by simp [hgt, hq]; (first | (simp (disch := omega) only [wrapI]; done) | (simp (disch := omega) only [wrapI]; exact ⟨rfl, rfl⟩) | skip); (first | done | exact ⟨rfl, rfl⟩ | rfl)) ?_
    refine RegD.heavyF (by simp) (by simp [hgt, hq]; rfl) ?_
    refine RegD.addN 1 (by simp [hgt, hq]; (first | (simp (disch := omega) only [wrapI]; done) | (simp (disch := omega) only [wrapI]; exact ⟨rfl, rfl⟩) | skip); (first | done | exact ⟨rfl, rfl⟩ | rfl)) ?_
    refine RegD.nil ⟨by kernel_rfl, ?_⟩
    refine DW.ghost (Ghost.wide 2 [6, 10] 1 (by simp; rfl) (by simp)) ?_
    refine DW.ghost (Ghost.wide 2 [6, 11] 3 (by simp; rfl) (by simp)) ?_
    refine DW.ghost (Ghost.wide 2 [6, 12] 3 (by simp; rfl) (by simp)) ?_
    refine DW.ghost (Ghost.wide 2 [7] 3 (by simp; rfl) (by simp)) ?_
    refine DW.ret ?_
    rw [hfin, hgt]
    simp [Tryz.results24, jobZ, hq]
    rfl
  · obtain ⟨M, hM⟩ : ∃ M, M = fmtM g := ⟨_, rfl⟩
    have hF : Spec Tryz.prog 19 [.agg [.r (.sc (.int .i64 2)), .r (.sc (.int .i64 g.Pages)), .r (.sc (.int .i64 g.Inodes)), .r (.sc (.int .i64 g.Quota))]] [some 2] (dM M) [.agg [.r (.sc (.int .i64 2)), .r (.sc (.int .i64 g.Pages)), .r (.sc (.int .i64 g.Inodes)), .r (.sc (.int .i64 g.Quota))]] := by
      have h := hM ▸ specFormatMemory_spec g
      simpa only [raGeo, hq] using h
    have hfin : sysV g = ⟨g, M, [jobZ, jobZ], []⟩ := by simp [sysV, hgt, hq, ← hM]
    refine DW.regs ?_
    refine RegO.opN 1 (by simp (maxSteps := 200000) (disch := first | omega | (simp; done) | fail) [wrapI, leT, leF, ltT, ltF, eqF, nleT, nleF, nltT, nltF, hgt]; rfl) ?_
    refine RegO.step rfl (OpStep.callA rfl (by simp (maxSteps := 200000) (disch := first | omega | (simp; done) | fail) [wrapI, leT, leF, ltT, ltF, eqF, nleT, nleF, nltT, nltF, hgt]; exact ⟨rfl, rfl⟩) (by simp (maxSteps := 200000) (disch := first | omega | (simp; done) | fail) [wrapI, leT, leF, ltT, ltF, eqF, nleT, nleF, nltT, nltF, hgt]; rfl) (by exact specGeoOk_spec _) (by simp) (by simp (maxSteps := 200000) (disch := first | omega | (simp; done) | fail) [wrapI, leT, leF, ltT, ltF, eqF, nleT, nleF, nltT, nltF, hgt]; rfl)) ?_
    refine RegO.opN 1 (by simp (maxSteps := 200000) (disch := first | omega | (simp; done) | fail) [wrapI, leT, leF, ltT, ltF, eqF, nleT, nleF, nltT, nltF, hgt]; rfl) ?_
    refine RegO.nil ?_
    refine DW.condF (by simp (maxSteps := 200000) (disch := first | omega | (simp; done) | fail) [wrapI, leT, leF, ltT, ltF, eqF, nleT, nleF, nltT, nltF, hgt]) ?_
    refine DW.skip ?_
    refine DW.seq ?_
    refine DW.drawn mixed (by kernel_rfl) ?_
    refine RegD.addN 2 (by simp [hgt, hq]; (first | (simp (disch := omega) only [wrapI]; done) | (simp (disch := omega) only [wrapI]; exact ⟨rfl, rfl⟩) | skip); (first | done | exact ⟨rfl, rfl⟩ | rfl)) ?_
    refine RegD.cert (Cert.callHA rfl (by simp) rfl (by decide) (by simp [hgt, hq]; exact ⟨rfl, rfl⟩) (by simp [hgt, hq]; rfl) (by exact hF) rfl (by simp) (by simp) (by simp; rfl) rfl) ?_
    refine RegD.addN 2 (by simp [hgt, hq]; (first | (simp (disch := omega) only [wrapI]; done) | (simp (disch := omega) only [wrapI]; exact ⟨rfl, rfl⟩) | skip); (first | done | exact ⟨rfl, rfl⟩ | rfl)) ?_
    refine RegD.cert (Cert.makeSlice (n := 2) rfl rfl rfl (by decide) (by simp; exact ⟨rfl, rfl⟩) (by simp; rfl) (by simp; rfl) (by rfl) (by decide) (by simp [hgt, hq]) (by simp [hgt, hq]) (by simp [hgt, hq]) (by simp [hgt, hq]) (by simp)) ?_
    refine RegD.addN 1 (by simp [hgt, hq]; (first | (simp (disch := omega) only [wrapI]; done) | (simp (disch := omega) only [wrapI]; exact ⟨rfl, rfl⟩) | skip); (first | done | exact ⟨rfl, rfl⟩ | rfl)) ?_
    refine RegD.heavyF (by simp) (by simp [hgt, hq]; rfl) ?_
    refine RegD.addN 1 (by simp [hgt, hq]; (first | (simp (disch := omega) only [wrapI]; done) | (simp (disch := omega) only [wrapI]; exact ⟨rfl, rfl⟩) | skip); (first | done | exact ⟨rfl, rfl⟩ | rfl)) ?_
    refine RegD.nil ⟨by kernel_rfl, ?_⟩
    refine DW.ghost (Ghost.wide 2 [6, 10] 1 (by simp; rfl) (by simp)) ?_
    refine DW.ghost (Ghost.wide 2 [6, 11] 3 (by simp; rfl) (by simp)) ?_
    refine DW.ghost (Ghost.wide 2 [6, 12] 3 (by simp; rfl) (by simp)) ?_
    refine DW.ghost (Ghost.wide 2 [6, 26] 1 (by simp; rfl) (by simp)) ?_
    refine DW.ghost (Ghost.wide 2 [6, 27] 3 (by simp; rfl) (by simp)) ?_
    refine DW.ghost (Ghost.wide 2 [6, 28] 3 (by simp; rfl) (by simp)) ?_
    refine DW.ghost (Ghost.wide 2 [7] 3 (by simp; rfl) (by simp)) ?_
    refine DW.ret ?_
    rw [hfin, hgt]
    simp [Tryz.results24, jobZ, hq]
    rfl
  · obtain ⟨M, hM⟩ : ∃ M, M = fmtM g := ⟨_, rfl⟩
    have hF : Spec Tryz.prog 19 [.agg [.r (.sc (.int .i64 3)), .r (.sc (.int .i64 g.Pages)), .r (.sc (.int .i64 g.Inodes)), .r (.sc (.int .i64 g.Quota))]] [some 2] (dM M) [.agg [.r (.sc (.int .i64 3)), .r (.sc (.int .i64 g.Pages)), .r (.sc (.int .i64 g.Inodes)), .r (.sc (.int .i64 g.Quota))]] := by
      have h := hM ▸ specFormatMemory_spec g
      simpa only [raGeo, hq] using h
    have hfin : sysV g = ⟨g, M, [jobZ, jobZ, jobZ], []⟩ := by simp [sysV, hgt, hq, ← hM]
    refine DW.regs ?_
    refine RegO.opN 1 (by simp (maxSteps := 200000) (disch := first | omega | (simp; done) | fail) [wrapI, leT, leF, ltT, ltF, eqF, nleT, nleF, nltT, nltF, hgt]; rfl) ?_
    refine RegO.step rfl (OpStep.callA rfl (by simp (maxSteps := 200000) (disch := first | omega | (simp; done) | fail) [wrapI, leT, leF, ltT, ltF, eqF, nleT, nleF, nltT, nltF, hgt]; exact ⟨rfl, rfl⟩) (by simp (maxSteps := 200000) (disch := first | omega | (simp; done) | fail) [wrapI, leT, leF, ltT, ltF, eqF, nleT, nleF, nltT, nltF, hgt]; rfl) (by exact specGeoOk_spec _) (by simp) (by simp (maxSteps := 200000) (disch := first | omega | (simp; done) | fail) [wrapI, leT, leF, ltT, ltF, eqF, nleT, nleF, nltT, nltF, hgt]; rfl)) ?_
    refine RegO.opN 1 (by simp (maxSteps := 200000) (disch := first | omega | (simp; done) | fail) [wrapI, leT, leF, ltT, ltF, eqF, nleT, nleF, nltT, nltF, hgt]; rfl) ?_
    refine RegO.nil ?_
    refine DW.condF (by simp (maxSteps := 200000) (disch := first | omega | (simp; done) | fail) [wrapI, leT, leF, ltT, ltF, eqF, nleT, nleF, nltT, nltF, hgt]) ?_
    refine DW.skip ?_
    refine DW.seq ?_
    refine DW.drawn mixed (by kernel_rfl) ?_
    refine RegD.addN 2 (by simp [hgt, hq]; (first | (simp (disch := omega) only [wrapI]; done) | (simp (disch := omega) only [wrapI]; exact ⟨rfl, rfl⟩) | skip); (first | done | exact ⟨rfl, rfl⟩ | rfl)) ?_
    refine RegD.cert (Cert.callHA rfl (by simp) rfl (by decide) (by simp [hgt, hq]; exact ⟨rfl, rfl⟩) (by simp [hgt, hq]; rfl) (by exact hF) rfl (by simp) (by simp) (by simp; rfl) rfl) ?_
    refine RegD.addN 2 (by simp [hgt, hq]; (first | (simp (disch := omega) only [wrapI]; done) | (simp (disch := omega) only [wrapI]; exact ⟨rfl, rfl⟩) | skip); (first | done | exact ⟨rfl, rfl⟩ | rfl)) ?_
    refine RegD.cert (Cert.makeSlice (n := 3) rfl rfl rfl (by decide) (by simp; exact ⟨rfl, rfl⟩) (by simp; rfl) (by simp; rfl) (by rfl) (by decide) (by simp [hgt, hq]) (by simp [hgt, hq]) (by simp [hgt, hq]) (by simp [hgt, hq]) (by simp)) ?_
    refine RegD.addN 1 (by simp [hgt, hq]; (first | (simp (disch := omega) only [wrapI]; done) | (simp (disch := omega) only [wrapI]; exact ⟨rfl, rfl⟩) | skip); (first | done | exact ⟨rfl, rfl⟩ | rfl)) ?_
    refine RegD.heavyF (by simp) (by simp [hgt, hq]; rfl) ?_
    refine RegD.addN 1 (by simp [hgt, hq]; (first | (simp (disch := omega) only [wrapI]; done) | (simp (disch := omega) only [wrapI]; exact ⟨rfl, rfl⟩) | skip); (first | done | exact ⟨rfl, rfl⟩ | rfl)) ?_
    refine RegD.nil ⟨by kernel_rfl, ?_⟩
    refine DW.ghost (Ghost.wide 2 [6, 10] 1 (by simp; rfl) (by simp)) ?_
    refine DW.ghost (Ghost.wide 2 [6, 11] 3 (by simp; rfl) (by simp)) ?_
    refine DW.ghost (Ghost.wide 2 [6, 12] 3 (by simp; rfl) (by simp)) ?_
    refine DW.ghost (Ghost.wide 2 [6, 26] 1 (by simp; rfl) (by simp)) ?_
    refine DW.ghost (Ghost.wide 2 [6, 27] 3 (by simp; rfl) (by simp)) ?_
    refine DW.ghost (Ghost.wide 2 [6, 28] 3 (by simp; rfl) (by simp)) ?_
    refine DW.ghost (Ghost.wide 2 [6, 42] 1 (by simp; rfl) (by simp)) ?_
    refine DW.ghost (Ghost.wide 2 [6, 43] 3 (by simp; rfl) (by simp)) ?_
    refine DW.ghost (Ghost.wide 2 [6, 44] 3 (by simp; rfl) (by simp)) ?_
    refine DW.ghost (Ghost.wide 2 [7] 3 (by simp; rfl) (by simp)) ?_
    refine DW.ret ?_
    rw [hfin, hgt]
    simp [Tryz.results24, jobZ, hq]
    rfl
  · have hfin : sysV g = ⟨⟨0, 0, 0, 0⟩, ⟨ByteArray.empty, []⟩, [], []⟩ := by simp [sysV, hgf]
    refine DW.regs ?_
    refine RegO.opN 1 (by simp (maxSteps := 200000) (disch := first | omega | (simp; done) | fail) [wrapI, leT, leF, ltT, ltF, eqF, nleT, nleF, nltT, nltF, hgf]; rfl) ?_
    refine RegO.step rfl (OpStep.callA rfl (by simp (maxSteps := 200000) (disch := first | omega | (simp; done) | fail) [wrapI, leT, leF, ltT, ltF, eqF, nleT, nleF, nltT, nltF, hgf]; exact ⟨rfl, rfl⟩) (by simp (maxSteps := 200000) (disch := first | omega | (simp; done) | fail) [wrapI, leT, leF, ltT, ltF, eqF, nleT, nleF, nltT, nltF, hgf]; rfl) (by exact specGeoOk_spec _) (by simp) (by simp (maxSteps := 200000) (disch := first | omega | (simp; done) | fail) [wrapI, leT, leF, ltT, ltF, eqF, nleT, nleF, nltT, nltF, hgf]; rfl)) ?_
    refine RegO.opN 1 (by simp (maxSteps := 200000) (disch := first | omega | (simp; done) | fail) [wrapI, leT, leF, ltT, ltF, eqF, nleT, nleF, nltT, nltF, hgf]; rfl) ?_
    refine RegO.nil ?_
    refine DW.condT (by simp (maxSteps := 200000) (disch := first | omega | (simp; done) | fail) [wrapI, leT, leF, ltT, ltF, eqF, nleT, nleF, nltT, nltF, hgf]) ?_
    refine DW.seq ?_
    refine DW.reg (by simp [hgf]; rfl) ?_
    refine DW.ghost (Ghost.wide 2 [5] 3 (by simp; rfl) (by simp)) ?_
    refine DW.ghost (Ghost.wide 2 [6] 16 (by simp; rfl) (by simp)) ?_
    refine DW.ghost (Ghost.wide 2 [7] 3 (by simp; rfl) (by simp)) ?_
    refine DW.ret ?_
    rw [hfin, hgf]
    simp [Tryz.results24]
theorem implSystemNew_spec (g : Geo) : Spec Tryz.prog 25 [raGeo g] [some 8, none] (System.d (sysV g) ++ [db (geoOk g)]) [raGeo g] := by
  refine Spec.intro Tryz.func25 rfl rfl Tryz.ntmps25 rfl (by simp) ?_
  refine DW.seq ?_
  refine DW.reg (by simp (maxSteps := 200000) (disch := first | omega | (simp; done) | fail) [wrapI, leT, leF, ltT, ltF, eqF, nleT, nleF, nltT, nltF]; rfl) ?_
  refine DW.seq ?_
  refine DW.seq ?_
  have hsp : (geoOk g = true ∧ g.Tenants = 1) ∨ (geoOk g = true ∧ g.Tenants = 2) ∨ (geoOk g = true ∧ g.Tenants = 3) ∨ geoOk g = false := by
    rcases Bool.eq_false_or_eq_true (geoOk g) with hgt | hgf
    · have hit := (geoIn hgt).t
      rcases (show g.Tenants = 1 ∨ g.Tenants = 2 ∨ g.Tenants = 3 by omega) with h | h | h <;> simp [hgt, h]
    · simp [hgf]
  rcases hsp with ⟨hgt, hq⟩ | ⟨hgt, hq⟩ | ⟨hgt, hq⟩ | hgf
  · obtain ⟨M, hM⟩ : ∃ M, M = fmtM g := ⟨_, rfl⟩
    have hF : Spec Tryz.prog 20 [.agg [.r (.sc (.int .i64 1)), .r (.sc (.int .i64 g.Pages)), .r (.sc (.int .i64 g.Inodes)), .r (.sc (.int .i64 g.Quota))]] [some 2] (dM M) [.agg [.r (.sc (.int .i64 1)), .r (.sc (.int .i64 g.Pages)), .r (.sc (.int .i64 g.Inodes)), .r (.sc (.int .i64 g.Quota))]] := by
      have h := hM ▸ implFormatMemory_spec g
      simpa only [raGeo, hq] using h
    have hfin : sysV g = ⟨g, M, [jobZ], []⟩ := by simp [sysV, hgt, hq, ← hM]
    refine DW.regs ?_
    refine RegO.opN 1 (by simp (maxSteps := 200000) (disch := first | omega | (simp; done) | fail) [wrapI, leT, leF, ltT, ltF, eqF, nleT, nleF, nltT, nltF, hgt]; rfl) ?_
    refine RegO.step rfl (OpStep.callA rfl (by simp (maxSteps := 200000) (disch := first | omega | (simp; done) | fail) [wrapI, leT, leF, ltT, ltF, eqF, nleT, nleF, nltT, nltF, hgt]; exact ⟨rfl, rfl⟩) (by simp (maxSteps := 200000) (disch := first | omega | (simp; done) | fail) [wrapI, leT, leF, ltT, ltF, eqF, nleT, nleF, nltT, nltF, hgt]; rfl) (by exact implGeoOk_spec _) (by simp) (by simp (maxSteps := 200000) (disch := first | omega | (simp; done) | fail) [wrapI, leT, leF, ltT, ltF, eqF, nleT, nleF, nltT, nltF, hgt]; rfl)) ?_
    refine RegO.opN 1 (by simp (maxSteps := 200000) (disch := first | omega | (simp; done) | fail) [wrapI, leT, leF, ltT, ltF, eqF, nleT, nleF, nltT, nltF, hgt]; rfl) ?_
    refine RegO.nil ?_
    refine DW.condF (by simp (maxSteps := 200000) (disch := first | omega | (simp; done) | fail) [wrapI, leT, leF, ltT, ltF, eqF, nleT, nleF, nltT, nltF, hgt]) ?_
    refine DW.skip ?_
    refine DW.seq ?_
    refine DW.drawn mixed (by kernel_rfl) ?_
    refine RegD.addN 2 (by simp [hgt, hq]; (first | (simp (disch := omega) only [wrapI]; done) | (simp (disch := omega) only [wrapI]; exact ⟨rfl, rfl⟩) | skip); (first | done | exact ⟨rfl, rfl⟩ | rfl)) ?_
    refine RegD.cert (Cert.callHA rfl (by simp) rfl (by decide) (by simp [hgt, hq]; exact ⟨rfl, rfl⟩) (by simp [hgt, hq]; rfl) (by exact hF) rfl (by simp) (by simp) (by simp; rfl) rfl) ?_
    refine RegD.addN 2 (by simp [hgt, hq]; (first | (simp (disch := omega) only [wrapI]; done) | (simp (disch := omega) only [wrapI]; exact ⟨rfl, rfl⟩) | skip); (first | done | exact ⟨rfl, rfl⟩ | rfl)) ?_
    refine RegD.cert (Cert.makeSlice (n := 1) rfl rfl rfl (by decide) (by simp; exact ⟨rfl, rfl⟩) (by simp; rfl) (by simp; rfl) (by rfl) (by decide) (by simp [hgt, hq]) (by simp [hgt, hq]) (by simp [hgt, hq]) (by simp [hgt, hq]) (by simp)) ?_
    refine RegD.addN 1 (by simp [hgt, hq]; (first | (simp (disch := omega) only [wrapI]; done) | (simp (disch := omega) only [wrapI]; exact ⟨rfl, rfl⟩) | skip); (first | done | exact ⟨rfl, rfl⟩ | rfl)) ?_
    refine RegD.heavyF (by simp) (by simp [hgt, hq]; rfl) ?_
    refine RegD.addN 1 (by simp [hgt, hq]; (first | (simp (disch := omega) only [wrapI]; done) | (simp (disch := omega) only [wrapI]; exact ⟨rfl, rfl⟩) | skip); (first | done | exact ⟨rfl, rfl⟩ | rfl)) ?_
    refine RegD.nil ⟨by kernel_rfl, ?_⟩
    refine DW.ghost (Ghost.wide 2 [6, 10] 1 (by simp; rfl) (by simp)) ?_
    refine DW.ghost (Ghost.wide 2 [6, 11] 3 (by simp; rfl) (by simp)) ?_
    refine DW.ghost (Ghost.wide 2 [6, 12] 3 (by simp; rfl) (by simp)) ?_
    refine DW.ghost (Ghost.wide 2 [7] 3 (by simp; rfl) (by simp)) ?_
    refine DW.ret ?_
    rw [hfin, hgt]
    simp [Tryz.results25, jobZ, hq]
    rfl
  · obtain ⟨M, hM⟩ : ∃ M, M = fmtM g := ⟨_, rfl⟩
    have hF : Spec Tryz.prog 20 [.agg [.r (.sc (.int .i64 2)), .r (.sc (.int .i64 g.Pages)), .r (.sc (.int .i64 g.Inodes)), .r (.sc (.int .i64 g.Quota))]] [some 2] (dM M) [.agg [.r (.sc (.int .i64 2)), .r (.sc (.int .i64 g.Pages)), .r (.sc (.int .i64 g.Inodes)), .r (.sc (.int .i64 g.Quota))]] := by
      have h := hM ▸ implFormatMemory_spec g
      simpa only [raGeo, hq] using h
    have hfin : sysV g = ⟨g, M, [jobZ, jobZ], []⟩ := by simp [sysV, hgt, hq, ← hM]
    refine DW.regs ?_
    refine RegO.opN 1 (by simp (maxSteps := 200000) (disch := first | omega | (simp; done) | fail) [wrapI, leT, leF, ltT, ltF, eqF, nleT, nleF, nltT, nltF, hgt]; rfl) ?_
    refine RegO.step rfl (OpStep.callA rfl (by simp (maxSteps := 200000) (disch := first | omega | (simp; done) | fail) [wrapI, leT, leF, ltT, ltF, eqF, nleT, nleF, nltT, nltF, hgt]; exact ⟨rfl, rfl⟩) (by simp (maxSteps := 200000) (disch := first | omega | (simp; done) | fail) [wrapI, leT, leF, ltT, ltF, eqF, nleT, nleF, nltT, nltF, hgt]; rfl) (by exact implGeoOk_spec _) (by simp) (by simp (maxSteps := 200000) (disch := first | omega | (simp; done) | fail) [wrapI, leT, leF, ltT, ltF, eqF, nleT, nleF, nltT, nltF, hgt]; rfl)) ?_
    refine RegO.opN 1 (by simp (maxSteps := 200000) (disch := first | omega | (simp; done) | fail) [wrapI, leT, leF, ltT, ltF, eqF, nleT, nleF, nltT, nltF, hgt]; rfl) ?_
    refine RegO.nil ?_
    refine DW.condF (by simp (maxSteps := 200000) (disch := first | omega | (simp; done) | fail) [wrapI, leT, leF, ltT, ltF, eqF, nleT, nleF, nltT, nltF, hgt]) ?_
    refine DW.skip ?_
    refine DW.seq ?_
    refine DW.drawn mixed (by kernel_rfl) ?_
    refine RegD.addN 2 (by simp [hgt, hq]; (first | (simp (disch := omega) only [wrapI]; done) | (simp (disch := omega) only [wrapI]; exact ⟨rfl, rfl⟩) | skip); (first | done | exact ⟨rfl, rfl⟩ | rfl)) ?_
    refine RegD.cert (Cert.callHA rfl (by simp) rfl (by decide) (by simp [hgt, hq]; exact ⟨rfl, rfl⟩) (by simp [hgt, hq]; rfl) (by exact hF) rfl (by simp) (by simp) (by simp; rfl) rfl) ?_
    refine RegD.addN 2 (by simp [hgt, hq]; (first | (simp (disch := omega) only [wrapI]; done) | (simp (disch := omega) only [wrapI]; exact ⟨rfl, rfl⟩) | skip); (first | done | exact ⟨rfl, rfl⟩ | rfl)) ?_
    refine RegD.cert (Cert.makeSlice (n := 2) rfl rfl rfl (by decide) (by simp; exact ⟨rfl, rfl⟩) (by simp; rfl) (by simp; rfl) (by rfl) (by decide) (by simp [hgt, hq]) (by simp [hgt, hq]) (by simp [hgt, hq]) (by simp [hgt, hq]) (by simp)) ?_
    refine RegD.addN 1 (by simp [hgt, hq]; (first | (simp (disch := omega) only [wrapI]; done) | (simp (disch := omega) only [wrapI]; exact ⟨rfl, rfl⟩) | skip); (first | done | exact ⟨rfl, rfl⟩ | rfl)) ?_
    refine RegD.heavyF (by simp) (by simp [hgt, hq]; rfl) ?_
    refine RegD.addN 1 (by simp [hgt, hq]; (first | (simp (disch := omega) only [wrapI]; done) | (simp (disch := omega) only [wrapI]; exact ⟨rfl, rfl⟩) | skip); (first | done | exact ⟨rfl, rfl⟩ | rfl)) ?_
    refine RegD.nil ⟨by kernel_rfl, ?_⟩
    refine DW.ghost (Ghost.wide 2 [6, 10] 1 (by simp; rfl) (by simp)) ?_
    refine DW.ghost (Ghost.wide 2 [6, 11] 3 (by simp; rfl) (by simp)) ?_
    refine DW.ghost (Ghost.wide 2 [6, 12] 3 (by simp; rfl) (by simp)) ?_
    refine DW.ghost (Ghost.wide 2 [6, 26] 1 (by simp; rfl) (by simp)) ?_
    refine DW.ghost (Ghost.wide 2 [6, 27] 3 (by simp; rfl) (by simp)) ?_
    refine DW.ghost (Ghost.wide 2 [6, 28] 3 (by simp; rfl) (by simp)) ?_
    refine DW.ghost (Ghost.wide 2 [7] 3 (by simp; rfl) (by simp)) ?_
    refine DW.ret ?_
    rw [hfin, hgt]
    simp [Tryz.results25, jobZ, hq]
    rfl
  · obtain ⟨M, hM⟩ : ∃ M, M = fmtM g := ⟨_, rfl⟩
    have hF : Spec Tryz.prog 20 [.agg [.r (.sc (.int .i64 3)), .r (.sc (.int .i64 g.Pages)), .r (.sc (.int .i64 g.Inodes)), .r (.sc (.int .i64 g.Quota))]] [some 2] (dM M) [.agg [.r (.sc (.int .i64 3)), .r (.sc (.int .i64 g.Pages)), .r (.sc (.int .i64 g.Inodes)), .r (.sc (.int .i64 g.Quota))]] := by
      have h := hM ▸ implFormatMemory_spec g
      simpa only [raGeo, hq] using h
    have hfin : sysV g = ⟨g, M, [jobZ, jobZ, jobZ], []⟩ := by simp [sysV, hgt, hq, ← hM]
    refine DW.regs ?_
    refine RegO.opN 1 (by simp (maxSteps := 200000) (disch := first | omega | (simp; done) | fail) [wrapI, leT, leF, ltT, ltF, eqF, nleT, nleF, nltT, nltF, hgt]; rfl) ?_
    refine RegO.step rfl (OpStep.callA rfl (by simp (maxSteps := 200000) (disch := first | omega | (simp; done) | fail) [wrapI, leT, leF, ltT, ltF, eqF, nleT, nleF, nltT, nltF, hgt]; exact ⟨rfl, rfl⟩) (by simp (maxSteps := 200000) (disch := first | omega | (simp; done) | fail) [wrapI, leT, leF, ltT, ltF, eqF, nleT, nleF, nltT, nltF, hgt]; rfl) (by exact implGeoOk_spec _) (by simp) (by simp (maxSteps := 200000) (disch := first | omega | (simp; done) | fail) [wrapI, leT, leF, ltT, ltF, eqF, nleT, nleF, nltT, nltF, hgt]; rfl)) ?_
    refine RegO.opN 1 (by simp (maxSteps := 200000) (disch := first | omega | (simp; done) | fail) [wrapI, leT, leF, ltT, ltF, eqF, nleT, nleF, nltT, nltF, hgt]; rfl) ?_
    refine RegO.nil ?_
    refine DW.condF (by simp (maxSteps := 200000) (disch := first | omega | (simp; done) | fail) [wrapI, leT, leF, ltT, ltF, eqF, nleT, nleF, nltT, nltF, hgt]) ?_
    refine DW.skip ?_
    refine DW.seq ?_
    refine DW.drawn mixed (by kernel_rfl) ?_
    refine RegD.addN 2 (by simp [hgt, hq]; (first | (simp (disch := omega) only [wrapI]; done) | (simp (disch := omega) only [wrapI]; exact ⟨rfl, rfl⟩) | skip); (first | done | exact ⟨rfl, rfl⟩ | rfl)) ?_
    refine RegD.cert (Cert.callHA rfl (by simp) rfl (by decide) (by simp [hgt, hq]; exact ⟨rfl, rfl⟩) (by simp [hgt, hq]; rfl) (by exact hF) rfl (by simp) (by simp) (by simp; rfl) rfl) ?_
    refine RegD.addN 2 (by simp [hgt, hq]; (first | (simp (disch := omega) only [wrapI]; done) | (simp (disch := omega) only [wrapI]; exact ⟨rfl, rfl⟩) | skip); (first | done | exact ⟨rfl, rfl⟩ | rfl)) ?_
    refine RegD.cert (Cert.makeSlice (n := 3) rfl rfl rfl (by decide) (by simp; exact ⟨rfl, rfl⟩) (by simp; rfl) (by simp; rfl) (by rfl) (by decide) (by simp [hgt, hq]) (by simp [hgt, hq]) (by simp [hgt, hq]) (by simp [hgt, hq]) (by simp)) ?_
    refine RegD.addN 1 (by simp [hgt, hq]; (first | (simp (disch := omega) only [wrapI]; done) | (simp (disch := omega) only [wrapI]; exact ⟨rfl, rfl⟩) | skip); (first | done | exact ⟨rfl, rfl⟩ | rfl)) ?_
    refine RegD.heavyF (by simp) (by simp [hgt, hq]; rfl) ?_
    refine RegD.addN 1 (by simp [hgt, hq]; (first | (simp (disch := omega) only [wrapI]; done) | (simp (disch := omega) only [wrapI]; exact ⟨rfl, rfl⟩) | skip); (first | done | exact ⟨rfl, rfl⟩ | rfl)) ?_
    refine RegD.nil ⟨by kernel_rfl, ?_⟩
    refine DW.ghost (Ghost.wide 2 [6, 10] 1 (by simp; rfl) (by simp)) ?_
    refine DW.ghost (Ghost.wide 2 [6, 11] 3 (by simp; rfl) (by simp)) ?_
    refine DW.ghost (Ghost.wide 2 [6, 12] 3 (by simp; rfl) (by simp)) ?_
    refine DW.ghost (Ghost.wide 2 [6, 26] 1 (by simp; rfl) (by simp)) ?_
    refine DW.ghost (Ghost.wide 2 [6, 27] 3 (by simp; rfl) (by simp)) ?_
    refine DW.ghost (Ghost.wide 2 [6, 28] 3 (by simp; rfl) (by simp)) ?_
    refine DW.ghost (Ghost.wide 2 [6, 42] 1 (by simp; rfl) (by simp)) ?_
    refine DW.ghost (Ghost.wide 2 [6, 43] 3 (by simp; rfl) (by simp)) ?_
    refine DW.ghost (Ghost.wide 2 [6, 44] 3 (by simp; rfl) (by simp)) ?_
    refine DW.ghost (Ghost.wide 2 [7] 3 (by simp; rfl) (by simp)) ?_
    refine DW.ret ?_
    rw [hfin, hgt]
    simp [Tryz.results25, jobZ, hq]
    rfl
  · have hfin : sysV g = ⟨⟨0, 0, 0, 0⟩, ⟨ByteArray.empty, []⟩, [], []⟩ := by simp [sysV, hgf]
    refine DW.regs ?_
    refine RegO.opN 1 (by simp (maxSteps := 200000) (disch := first | omega | (simp; done) | fail) [wrapI, leT, leF, ltT, ltF, eqF, nleT, nleF, nltT, nltF, hgf]; rfl) ?_
    refine RegO.step rfl (OpStep.callA rfl (by simp (maxSteps := 200000) (disch := first | omega | (simp; done) | fail) [wrapI, leT, leF, ltT, ltF, eqF, nleT, nleF, nltT, nltF, hgf]; exact ⟨rfl, rfl⟩) (by simp (maxSteps := 200000) (disch := first | omega | (simp; done) | fail) [wrapI, leT, leF, ltT, ltF, eqF, nleT, nleF, nltT, nltF, hgf]; rfl) (by exact implGeoOk_spec _) (by simp) (by simp (maxSteps := 200000) (disch := first | omega | (simp; done) | fail) [wrapI, leT, leF, ltT, ltF, eqF, nleT, nleF, nltT, nltF, hgf]; rfl)) ?_
    refine RegO.opN 1 (by simp (maxSteps := 200000) (disch := first | omega | (simp; done) | fail) [wrapI, leT, leF, ltT, ltF, eqF, nleT, nleF, nltT, nltF, hgf]; rfl) ?_
    refine RegO.nil ?_
    refine DW.condT (by simp (maxSteps := 200000) (disch := first | omega | (simp; done) | fail) [wrapI, leT, leF, ltT, ltF, eqF, nleT, nleF, nltT, nltF, hgf]) ?_
    refine DW.seq ?_
    refine DW.reg (by simp [hgf]; rfl) ?_
    refine DW.ghost (Ghost.wide 2 [5] 3 (by simp; rfl) (by simp)) ?_
    refine DW.ghost (Ghost.wide 2 [6] 16 (by simp; rfl) (by simp)) ?_
    refine DW.ghost (Ghost.wide 2 [7] 3 (by simp; rfl) (by simp)) ?_
    refine DW.ret ?_
    rw [hfin, hgf]
    simp [Tryz.results25]
end Go.Proofs.YtjjdjkkhhcbogaaGreat.DM
