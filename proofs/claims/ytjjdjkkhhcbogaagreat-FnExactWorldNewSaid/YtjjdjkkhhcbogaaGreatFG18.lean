import Derived.Test.YtjjdjkkhhcbogaaGreatFG17
namespace Go.Proofs.YtjjdjkkhhcbogaaGreat.DM
set_option linter.unusedVariables false
set_option linter.unusedSimpArgs false
set_option maxRecDepth 4000
set_option maxHeartbeats 8000000
theorem specWorldNew_spec (g : Geo) : Spec Tryz.prog 29 [raGeo g] [some 11, none] (World.d (worldV g) ++ [db (geoOk g)]) [raGeo g] := by
  refine Spec.intro Tryz.func29 rfl rfl Tryz.ntmps29 rfl (by simp) ?_
  obtain ⟨S, hS⟩ : ∃ S, S = sysV g := ⟨_, rfl⟩
  refine DW.seq ?_
  refine DW.reg (by simp (maxSteps := 200000) (disch := first | omega | (simp; done) | fail) [wrapI, leT, leF, ltT, ltF, eqF, nleT, nleF, nltT, nltF]; rfl) ?_
  refine DW.seq ?_
  have hsp : (geoOk g = true ∧ g.Tenants = 1) ∨ (geoOk g = true ∧ g.Tenants = 2) ∨ (geoOk g = true ∧ g.Tenants = 3) ∨ geoOk g = false := by
    rcases Bool.eq_false_or_eq_true (geoOk g) with hgt | hgf
    · have hit := (geoIn hgt).t
      rcases (show g.Tenants = 1 ∨ g.Tenants = 2 ∨ g.Tenants = 3 by omega) with h | h | h <;> simp [hgt, h]
    · simp [hgf]
  rcases hsp with ⟨hgt, hq⟩ | ⟨hgt, hq⟩ | ⟨hgt, hq⟩ | hgf
  · have hfin : worldV g = ⟨S, [⟨[]⟩], [⟨[]⟩], 0⟩ := by simp [worldV, hgt, hq, ← hS]
    refine DW.regs ?_
    refine RegO.opN 1 (by simp [hgt]; rfl) ?_
    refine RegO.step rfl (OpStep.callA rfl (by simp [hgt]; exact ⟨rfl, rfl⟩) (by simp [hgt]; rfl) (by exact (hS ▸ specSystemNew_spec g)) (by simp) (by simp [hgt]; rfl)) ?_
    refine RegO.opN 6 (by simp [hgt]; rfl) ?_
    refine RegO.nil ?_
    refine DW.seq ?_
    refine DW.seq ?_
    refine DW.reg (by simp (maxSteps := 200000) (disch := first | omega | (simp; done) | fail) [wrapI, leT, leF, ltT, ltF, eqF, nleT, nleF, nltT, nltF, hgt]; rfl) ?_
    refine DW.condF (by simp (maxSteps := 200000) (disch := first | omega | (simp; done) | fail) [wrapI, leT, leF, ltT, ltF, eqF, nleT, nleF, nltT, nltF, hgt]) ?_
    refine DW.skip ?_
    refine DW.seq ?_
    refine DW.drawn mixed (by kernel_rfl) ?_
    refine RegD.addN 3 (by simp [hgt, hq]; (first | (simp (disch := omega) only [wrapI]; done) | (simp (disch := omega) only [wrapI]; exact ⟨rfl, rfl⟩) | skip); (first | done | exact ⟨rfl, rfl⟩ | rfl)) ?_
    refine RegD.cert (Cert.makeSlice (n := 1) rfl rfl rfl (by decide) (by simp; exact ⟨rfl, rfl⟩) (by simp; rfl) (by simp; rfl) (by rfl) (by decide) (by simp [hgt, hq]) (by simp [hgt, hq]) (by simp [hgt, hq]) (by simp [hgt, hq]) (by simp)) ?_
    refine RegD.addN 2 (by simp [hgt, hq]; (first | (simp (disch := omega) only [wrapI]; done) | (simp (disch := omega) only [wrapI]; exact ⟨rfl, rfl⟩) | skip); (first | done | exact ⟨rfl, rfl⟩ | rfl)) ?_
    refine RegD.cert (Cert.makeSlice (n := 1) rfl rfl rfl (by decide) (by simp; exact ⟨rfl, rfl⟩) (by simp; rfl) (by simp; rfl) (by rfl) (by decide) (by simp [hgt, hq]) (by simp [hgt, hq]) (by simp [hgt, hq]) (by simp [hgt, hq]) (by simp)) ?_
    refine RegD.addN 1 (by simp [hgt, hq]; (first | (simp (disch := omega) only [wrapI]; done) | (simp (disch := omega) only [wrapI]; exact ⟨rfl, rfl⟩) | skip); (first | done | exact ⟨rfl, rfl⟩ | rfl)) ?_
    refine RegD.heavyF (by simp) (by simp [hgt, hq]; rfl) ?_
    refine RegD.addN 1 (by simp [hgt, hq]; (first | (simp (disch := omega) only [wrapI]; done) | (simp (disch := omega) only [wrapI]; exact ⟨rfl, rfl⟩) | skip); (first | done | exact ⟨rfl, rfl⟩ | rfl)) ?_
    refine RegD.nil ⟨by kernel_rfl, ?_⟩
    refine DW.ghost (Ghost.wide 2 [8, 0] 3 (by simp; rfl) (by simp)) ?_
    refine DW.ghost (Ghost.wide 2 [9, 0] 3 (by simp; rfl) (by simp)) ?_
    refine DW.ret ?_
    rw [hfin, hgt]
    simp [Tryz.results29, hq]
    rfl
  · have hfin : worldV g = ⟨S, [⟨[]⟩, ⟨[]⟩], [⟨[]⟩, ⟨[]⟩], 0⟩ := by simp [worldV, hgt, hq, ← hS]
    refine DW.regs ?_
    refine RegO.opN 1 (by simp [hgt]; rfl) ?_
    refine RegO.step rfl (OpStep.callA rfl (by simp [hgt]; exact ⟨rfl, rfl⟩) (by simp [hgt]; rfl) (by exact (hS ▸ specSystemNew_spec g)) (by simp) (by simp [hgt]; rfl)) ?_
    refine RegO.opN 6 (by simp [hgt]; rfl) ?_
    refine RegO.nil ?_
    refine DW.seq ?_
    refine DW.seq ?_
    refine DW.reg (by simp (maxSteps := 200000) (disch := first | omega | (simp; done) | fail) [wrapI, leT, leF, ltT, ltF, eqF, nleT, nleF, nltT, nltF, hgt]; rfl) ?_
    refine DW.condF (by simp (maxSteps := 200000) (disch := first | omega | (simp; done) | fail) [wrapI, leT, leF, ltT, ltF, eqF, nleT, nleF, nltT, nltF, hgt]) ?_
    refine DW.skip ?_
    refine DW.seq ?_
    refine DW.drawn mixed (by kernel_rfl) ?_
    refine RegD.addN 3 (by simp [hgt, hq]; (first | (simp (disch := omega) only [wrapI]; done) | (simp (disch := omega) only [wrapI]; exact ⟨rfl, rfl⟩) | skip); (first | done | exact ⟨rfl, rfl⟩ | rfl)) ?_
    refine RegD.cert (Cert.makeSlice (n := 2) rfl rfl rfl (by decide) (by simp; exact ⟨rfl, rfl⟩) (by simp; rfl) (by simp; rfl) (by rfl) (by decide) (by simp [hgt, hq]) (by simp [hgt, hq]) (by simp [hgt, hq]) (by simp [hgt, hq]) (by simp)) ?_
    refine RegD.addN 2 (by simp [hgt, hq]; (first | (simp (disch := omega) only [wrapI]; done) | (simp (disch := omega) only [wrapI]; exact ⟨rfl, rfl⟩) | skip); (first | done | exact ⟨rfl, rfl⟩ | rfl)) ?_
    refine RegD.cert (Cert.makeSlice (n := 2) rfl rfl rfl (by decide) (by simp; exact ⟨rfl, rfl⟩) (by simp; rfl) (by simp; rfl) (by rfl) (by decide) (by simp [hgt, hq]) (by simp [hgt, hq]) (by simp [hgt, hq]) (by simp [hgt, hq]) (by simp)) ?_
    refine RegD.addN 1 (by simp [hgt, hq]; (first | (simp (disch := omega) only [wrapI]; done) | (simp (disch := omega) only [wrapI]; exact ⟨rfl, rfl⟩) | skip); (first | done | exact ⟨rfl, rfl⟩ | rfl)) ?_
    refine RegD.heavyF (by simp) (by simp [hgt, hq]; rfl) ?_
    refine RegD.addN 1 (by simp [hgt, hq]; (first | (simp (disch := omega) only [wrapI]; done) | (simp (disch := omega) only [wrapI]; exact ⟨rfl, rfl⟩) | skip); (first | done | exact ⟨rfl, rfl⟩ | rfl)) ?_
    refine RegD.nil ⟨by kernel_rfl, ?_⟩
    refine DW.ghost (Ghost.wide 2 [8, 0] 3 (by simp; rfl) (by simp)) ?_
    refine DW.ghost (Ghost.wide 2 [8, 1] 3 (by simp; rfl) (by simp)) ?_
    refine DW.ghost (Ghost.wide 2 [9, 0] 3 (by simp; rfl) (by simp)) ?_
    refine DW.ghost (Ghost.wide 2 [9, 1] 3 (by simp; rfl) (by simp)) ?_
    refine DW.ret ?_
    rw [hfin, hgt]
    simp [Tryz.results29, hq]
    rfl
  · have hfin : worldV g = ⟨S, [⟨[]⟩, ⟨[]⟩, ⟨[]⟩], [⟨[]⟩, ⟨[]⟩, ⟨[]⟩], 0⟩ := by simp [worldV, hgt, hq, ← hS]
    refine DW.regs ?_
    refine RegO.opN 1 (by simp [hgt]; rfl) ?_
    refine RegO.step rfl (OpStep.callA rfl (by simp [hgt]; exact ⟨rfl, rfl⟩) (by simp [hgt]; rfl) (by exact (hS ▸ specSystemNew_spec g)) (by simp) (by simp [hgt]; rfl)) ?_
    refine RegO.opN 6 (by simp [hgt]; rfl) ?_
    refine RegO.nil ?_
    refine DW.seq ?_
    refine DW.seq ?_
    refine DW.reg (by simp (maxSteps := 200000) (disch := first | omega | (simp; done) | fail) [wrapI, leT, leF, ltT, ltF, eqF, nleT, nleF, nltT, nltF, hgt]; rfl) ?_
    refine DW.condF (by simp (maxSteps := 200000) (disch := first | omega | (simp; done) | fail) [wrapI, leT, leF, ltT, ltF, eqF, nleT, nleF, nltT, nltF, hgt]) ?_
    refine DW.skip ?_
    refine DW.seq ?_
    refine DW.drawn mixed (by kernel_rfl) ?_
    refine RegD.addN 3 (by simp [hgt, hq]; (first | (simp (disch := omega) only [wrapI]; done) | (simp (disch := omega) only [wrapI]; exact ⟨rfl, rfl⟩) | skip); (first | done | exact ⟨rfl, rfl⟩ | rfl)) ?_
    refine RegD.cert (Cert.makeSlice (n := 3) rfl rfl rfl (by decide) (by simp; exact ⟨rfl, rfl⟩) (by simp; rfl) (by simp; rfl) (by rfl) (by decide) (by simp [hgt, hq]) (by simp [hgt, hq]) (by simp [hgt, hq]) (by simp [hgt, hq]) (by simp)) ?_
    refine RegD.addN 2 (by simp [hgt, hq]; (first | (simp (disch := omega) only [wrapI]; done) | (simp (disch := omega) only [wrapI]; exact ⟨rfl, rfl⟩) | skip); (first | done | exact ⟨rfl, rfl⟩ | rfl)) ?_
    refine RegD.cert (Cert.makeSlice (n := 3) rfl rfl rfl (by decide) (by simp; exact ⟨rfl, rfl⟩) (by simp; rfl) (by simp; rfl) (by rfl) (by decide) (by simp [hgt, hq]) (by simp [hgt, hq]) (by simp [hgt, hq]) (by simp [hgt, hq]) (by simp)) ?_
    refine RegD.addN 1 (by simp [hgt, hq]; (first | (simp (disch := omega) only [wrapI]; done) | (simp (disch := omega) only [wrapI]; exact ⟨rfl, rfl⟩) | skip); (first | done | exact ⟨rfl, rfl⟩ | rfl)) ?_
    refine RegD.heavyF (by simp) (by simp [hgt, hq]; rfl) ?_
    refine RegD.addN 1 (by simp [hgt, hq]; (first | (simp (disch := omega) only [wrapI]; done) | (simp (disch := omega) only [wrapI]; exact ⟨rfl, rfl⟩) | skip); (first | done | exact ⟨rfl, rfl⟩ | rfl)) ?_
    refine RegD.nil ⟨by kernel_rfl, ?_⟩
    refine DW.ghost (Ghost.wide 2 [8, 0] 3 (by simp; rfl) (by simp)) ?_
    refine DW.ghost (Ghost.wide 2 [8, 1] 3 (by simp; rfl) (by simp)) ?_
    refine DW.ghost (Ghost.wide 2 [8, 2] 3 (by simp; rfl) (by simp)) ?_
    refine DW.ghost (Ghost.wide 2 [9, 0] 3 (by simp; rfl) (by simp)) ?_
    refine DW.ghost (Ghost.wide 2 [9, 1] 3 (by simp; rfl) (by simp)) ?_
    refine DW.ghost (Ghost.wide 2 [9, 2] 3 (by simp; rfl) (by simp)) ?_
    refine DW.ret ?_
    rw [hfin, hgt]
    simp [Tryz.results29, hq]
    rfl
  · have hfin : worldV g = ⟨⟨⟨0, 0, 0, 0⟩, ⟨ByteArray.empty, []⟩, [], []⟩, [], [], 0⟩ := by simp [worldV, hgf]
    refine DW.regs ?_
    refine RegO.opN 1 (by simp [hgf]; rfl) ?_
    refine RegO.step rfl (OpStep.callA rfl (by simp [hgf]; exact ⟨rfl, rfl⟩) (by simp [hgf]; rfl) (by exact (hS ▸ specSystemNew_spec g)) (by simp) (by simp [hgf]; rfl)) ?_
    refine RegO.opN 6 (by simp [hgf]; rfl) ?_
    refine RegO.nil ?_
    refine DW.seq ?_
    refine DW.seq ?_
    refine DW.reg (by simp (maxSteps := 200000) (disch := first | omega | (simp; done) | fail) [wrapI, leT, leF, ltT, ltF, eqF, nleT, nleF, nltT, nltF, hgf]; rfl) ?_
    refine DW.condT (by simp (maxSteps := 200000) (disch := first | omega | (simp; done) | fail) [wrapI, leT, leF, ltT, ltF, eqF, nleT, nleF, nltT, nltF, hgf]) ?_
    refine DW.seq ?_
    refine DW.reg (by simp [hgf]; rfl) ?_
    refine DW.ghost (Ghost.wide 2 [5] 3 (by simp; rfl) (by simp)) ?_
    refine DW.ghost (Ghost.wide 2 [6] 16 (by simp; rfl) (by simp)) ?_
    refine DW.ghost (Ghost.wide 2 [7] 3 (by simp; rfl) (by simp)) ?_
    refine DW.ghost (Ghost.wide 2 [8] 1 (by simp; rfl) (by simp)) ?_
    refine DW.ghost (Ghost.wide 2 [9] 1 (by simp; rfl) (by simp)) ?_
    refine DW.ret ?_
    rw [hfin, hgf]
    simp [Tryz.results29]
theorem implWorldNew_spec (g : Geo) : Spec Tryz.prog 30 [raGeo g] [some 11, none] (World.d (worldV g) ++ [db (geoOk g)]) [raGeo g] := by
  refine Spec.intro Tryz.func30 rfl rfl Tryz.ntmps30 rfl (by simp) ?_
  obtain ⟨S, hS⟩ : ∃ S, S = sysV g := ⟨_, rfl⟩
  refine DW.seq ?_
  refine DW.reg (by simp (maxSteps := 200000) (disch := first | omega | (simp; done) | fail) [wrapI, leT, leF, ltT, ltF, eqF, nleT, nleF, nltT, nltF]; rfl) ?_
  refine DW.seq ?_
  have hsp : (geoOk g = true ∧ g.Tenants = 1) ∨ (geoOk g = true ∧ g.Tenants = 2) ∨ (geoOk g = true ∧ g.Tenants = 3) ∨ geoOk g = false := by
    rcases Bool.eq_false_or_eq_true (geoOk g) with hgt | hgf
    · have hit := (geoIn hgt).t
      rcases (show g.Tenants = 1 ∨ g.Tenants = 2 ∨ g.Tenants = 3 by omega) with h | h | h <;> simp [hgt, h]
    · simp [hgf]
  rcases hsp with ⟨hgt, hq⟩ | ⟨hgt, hq⟩ | ⟨hgt, hq⟩ | hgf
  · have hfin : worldV g = ⟨S, [⟨[]⟩], [⟨[]⟩], 0⟩ := by simp [worldV, hgt, hq, ← hS]
    refine DW.regs ?_
    refine RegO.opN 1 (by simp [hgt]; rfl) ?_
    refine RegO.step rfl (OpStep.callA rfl (by simp [hgt]; exact ⟨rfl, rfl⟩) (by simp [hgt]; rfl) (by exact (hS ▸ implSystemNew_spec g)) (by simp) (by simp [hgt]; rfl)) ?_
    refine RegO.opN 6 (by simp [hgt]; rfl) ?_
    refine RegO.nil ?_
    refine DW.seq ?_
    refine DW.seq ?_
    refine DW.reg (by simp (maxSteps := 200000) (disch := first | omega | (simp; done) | fail) [wrapI, leT, leF, ltT, ltF, eqF, nleT, nleF, nltT, nltF, hgt]; rfl) ?_
    refine DW.condF (by simp (maxSteps := 200000) (disch := first | omega | (simp; done) | fail) [wrapI, leT, leF, ltT, ltF, eqF, nleT, nleF, nltT, nltF, hgt]) ?_
    refine DW.skip ?_
    refine DW.seq ?_
    refine DW.drawn mixed (by kernel_rfl) ?_
    refine RegD.addN 3 (by simp [hgt, hq]; (first | (simp (disch := omega) only [wrapI]; done) | (simp (disch := omega) only [wrapI]; exact ⟨rfl, rfl⟩) | skip); (first | done | exact ⟨rfl, rfl⟩ | rfl)) ?_
    refine RegD.cert (Cert.makeSlice (n := 1) rfl rfl rfl (by decide) (by simp; exact ⟨rfl, rfl⟩) (by simp; rfl) (by simp; rfl) (by rfl) (by decide) (by simp [hgt, hq]) (by simp [hgt, hq]) (by simp [hgt, hq]) (by simp [hgt, hq]) (by simp)) ?_
    refine RegD.addN 2 (by simp [hgt, hq]; (first | (simp (disch := omega) only [wrapI]; done) | (simp (disch := omega) only [wrapI]; exact ⟨rfl, rfl⟩) | skip); (first | done | exact ⟨rfl, rfl⟩ | rfl)) ?_
    refine RegD.cert (Cert.makeSlice (n := 1) rfl rfl rfl (by decide) (by simp; exact ⟨rfl, rfl⟩) (by simp; rfl) (by simp; rfl) (by rfl) (by decide) (by simp [hgt, hq]) (by simp [hgt, hq]) (by simp [hgt, hq]) (by simp [hgt, hq]) (by simp)) ?_
    refine RegD.addN 1 (by simp [hgt, hq]; (first | (simp (disch := omega) only [wrapI]; done) | (simp (disch := omega) only [wrapI]; exact ⟨rfl, rfl⟩) | skip); (first | done | exact ⟨rfl, rfl⟩ | rfl)) ?_
    refine RegD.heavyF (by simp) (by simp [hgt, hq]; rfl) ?_
    refine RegD.addN 1 (by simp [hgt, hq]; (first | (simp (disch := omega) only [wrapI]; done) | (simp (disch := omega) only [wrapI]; exact ⟨rfl, rfl⟩) | skip); (first | done | exact ⟨rfl, rfl⟩ | rfl)) ?_
    refine RegD.nil ⟨by kernel_rfl, ?_⟩
    refine DW.ghost (Ghost.wide 2 [8, 0] 3 (by simp; rfl) (by simp)) ?_
    refine DW.ghost (Ghost.wide 2 [9, 0] 3 (by simp; rfl) (by simp)) ?_
    refine DW.ret ?_
    rw [hfin, hgt]
    simp [Tryz.results30, hq]
    rfl
  · have hfin : worldV g = ⟨S, [⟨[]⟩, ⟨[]⟩], [⟨[]⟩, ⟨[]⟩], 0⟩ := by simp [worldV, hgt, hq, ← hS]
    refine DW.regs ?_
    refine RegO.opN 1 (by simp [hgt]; rfl) ?_
    refine RegO.step rfl (OpStep.callA rfl (by simp [hgt]; exact ⟨rfl, rfl⟩) (by simp [hgt]; rfl) (by exact (hS ▸ implSystemNew_spec g)) (by simp) (by simp [hgt]; rfl)) ?_
    refine RegO.opN 6 (by simp [hgt]; rfl) ?_
    refine RegO.nil ?_
    refine DW.seq ?_
    refine DW.seq ?_
    refine DW.reg (by simp (maxSteps := 200000) (disch := first | omega | (simp; done) | fail) [wrapI, leT, leF, ltT, ltF, eqF, nleT, nleF, nltT, nltF, hgt]; rfl) ?_
    refine DW.condF (by simp (maxSteps := 200000) (disch := first | omega | (simp; done) | fail) [wrapI, leT, leF, ltT, ltF, eqF, nleT, nleF, nltT, nltF, hgt]) ?_
    refine DW.skip ?_
    refine DW.seq ?_
    refine DW.drawn mixed (by kernel_rfl) ?_
    refine RegD.addN 3 (by simp [hgt, hq]; (first | (simp (disch := omega) only [wrapI]; done) | (simp (disch := omega) only [wrapI]; exact ⟨rfl, rfl⟩) | skip); (first | done | exact ⟨rfl, rfl⟩ | rfl)) ?_
    refine RegD.cert (Cert.makeSlice (n := 2) rfl rfl rfl (by decide) (by simp; exact ⟨rfl, rfl⟩) (by simp; rfl) (by simp; rfl) (by rfl) (by decide) (by simp [hgt, hq]) (by simp [hgt, hq]) (by simp [hgt, hq]) (by simp [hgt, hq]) (by simp)) ?_
    refine RegD.addN 2 (by simp [hgt, hq]; (first | (simp (disch := omega) only [wrapI]; done) | (simp (disch := omega) only [wrapI]; exact ⟨rfl, rfl⟩) | skip); (first | done | exact ⟨rfl, rfl⟩ | rfl)) ?_
    refine RegD.cert (Cert.makeSlice (n := 2) rfl rfl rfl (by decide) (by simp; exact ⟨rfl, rfl⟩) (by simp; rfl) (by simp; rfl) (by rfl) (by decide) (by simp [hgt, hq]) (by simp [hgt, hq]) (by simp [hgt, hq]) (by simp [hgt, hq]) (by simp)) ?_
    refine RegD.addN 1 (by simp [hgt, hq]; (first | (simp (disch := omega) only [wrapI]; done) | (simp (disch := omega) only [wrapI]; exact ⟨rfl, rfl⟩) | skip); (first | done | exact ⟨rfl, rfl⟩ | rfl)) ?_
    refine RegD.heavyF (by simp) (by simp [hgt, hq]; rfl) ?_
    refine RegD.addN 1 (by simp [hgt, hq]; (first | (simp (disch := omega) only [wrapI]; done) | (simp (disch := omega) only [wrapI]; exact ⟨rfl, rfl⟩) | skip); (first | done | exact ⟨rfl, rfl⟩ | rfl)) ?_
    refine RegD.nil ⟨by kernel_rfl, ?_⟩
    refine DW.ghost (Ghost.wide 2 [8, 0] 3 (by simp; rfl) (by simp)) ?_
    refine DW.ghost (Ghost.wide 2 [8, 1] 3 (by simp; rfl) (by simp)) ?_
    refine DW.ghost (Ghost.wide 2 [9, 0] 3 (by simp; rfl) (by simp)) ?_
    refine DW.ghost (Ghost.wide 2 [9, 1] 3 (by simp; rfl) (by simp)) ?_
    refine DW.ret ?_
    rw [hfin, hgt]
    simp [Tryz.results30, hq]
    rfl
  · have hfin : worldV g = ⟨S, [⟨[]⟩, ⟨[]⟩, ⟨[]⟩], [⟨[]⟩, ⟨[]⟩, ⟨[]⟩], 0⟩ := by simp [worldV, hgt, hq, ← hS]
    refine DW.regs ?_
    refine RegO.opN 1 (by simp [hgt]; rfl) ?_
    refine RegO.step rfl (OpStep.callA rfl (by simp [hgt]; exact ⟨rfl, rfl⟩) (by simp [hgt]; rfl) (by exact (hS ▸ implSystemNew_spec g)) (by simp) (by simp [hgt]; rfl)) ?_
    refine RegO.opN 6 (by simp [hgt]; rfl) ?_
    refine RegO.nil ?_
    refine DW.seq ?_
    refine DW.seq ?_
    refine DW.reg (by simp (maxSteps := 200000) (disch := first | omega | (simp; done) | fail) [wrapI, leT, leF, ltT, ltF, eqF, nleT, nleF, nltT, nltF, hgt]; rfl) ?_
    refine DW.condF (by simp (maxSteps := 200000) (disch := first | omega | (simp; done) | fail) [wrapI, leT, leF, ltT, ltF, eqF, nleT, nleF, nltT, nltF, hgt]) ?_
    refine DW.skip ?_
    refine DW.seq ?_
    refine DW.drawn mixed (by kernel_rfl) ?_
    refine RegD.addN 3 (by simp [hgt, hq]; (first | (simp (disch := omega) only [wrapI]; done) | (simp (disch := omega) only [wrapI]; exact ⟨rfl, rfl⟩) | skip); (first | done | exact ⟨rfl, rfl⟩ | rfl)) ?_
    refine RegD.cert (Cert.makeSlice (n := 3) rfl rfl rfl (by decide) (by simp; exact ⟨rfl, rfl⟩) (by simp; rfl) (by simp; rfl) (by rfl) (by decide) (by simp [hgt, hq]) (by simp [hgt, hq]) (by simp [hgt, hq]) (by simp [hgt, hq]) (by simp)) ?_
    refine RegD.addN 2 (by simp [hgt, hq]; (first | (simp (disch := omega) only [wrapI]; done) | (simp (disch := omega) only [wrapI]; exact ⟨rfl, rfl⟩) | skip); (first | done | exact ⟨rfl, rfl⟩ | rfl)) ?_
    refine RegD.cert (Cert.makeSlice (n := 3) rfl rfl rfl (by decide) (by simp; exact ⟨rfl, rfl⟩) (by simp; rfl) (by simp; rfl) (by rfl) (by decide) (by simp [hgt, hq]) (by simp [hgt, hq]) (by simp [hgt, hq]) (by simp [hgt, hq]) (by simp)) ?_
    refine RegD.addN 1 (by simp [hgt, hq]; (first | (simp (disch := omega) only [wrapI]; done) | (simp (disch := omega) only [wrapI]; exact ⟨rfl, rfl⟩) | skip); (first | done | exact ⟨rfl, rfl⟩ | rfl)) ?_
    refine RegD.heavyF (by simp) (by simp [hgt, hq]; rfl) ?_
    refine RegD.addN 1 (by simp [hgt, hq]; (first | (simp (disch := omega) only [wrapI]; done) | (simp (disch := omega) only [wrapI]; exact ⟨rfl, rfl⟩) | skip); (first | done | exact ⟨rfl, rfl⟩ | rfl)) ?_
    refine RegD.nil ⟨by kernel_rfl, ?_⟩
    refine DW.ghost (Ghost.wide 2 [8, 0] 3 (by simp; rfl) (by simp)) ?_
    refine DW.ghost (Ghost.wide 2 [8, 1] 3 (by simp; rfl) (by simp)) ?_
    refine DW.ghost (Ghost.wide 2 [8, 2] 3 (by simp; rfl) (by simp)) ?_
    refine DW.ghost (Ghost.wide 2 [9, 0] 3 (by simp; rfl) (by simp)) ?_
    refine DW.ghost (Ghost.wide 2 [9, 1] 3 (by simp; rfl) (by simp)) ?_
    refine DW.ghost (Ghost.wide 2 [9, 2] 3 (by simp; rfl) (by simp)) ?_
    refine DW.ret ?_
    rw [hfin, hgt]
    simp [Tryz.results30, hq]
    rfl
  · have hfin : worldV g = ⟨⟨⟨0, 0, 0, 0⟩, ⟨ByteArray.empty, []⟩, [], []⟩, [], [], 0⟩ := by simp [worldV, hgf]
    refine DW.regs ?_
    refine RegO.opN 1 (by simp [hgf]; rfl) ?_
    refine RegO.step rfl (OpStep.callA rfl (by simp [hgf]; exact ⟨rfl, rfl⟩) (by simp [hgf]; rfl) (by exact (hS ▸ implSystemNew_spec g)) (by simp) (by simp [hgf]; rfl)) ?_
    refine RegO.opN 6 (by simp [hgf]; rfl) ?_
    refine RegO.nil ?_
    refine DW.seq ?_
    refine DW.seq ?_
    refine DW.reg (by simp (maxSteps := 200000) (disch := first | omega | (simp; done) | fail) [wrapI, leT, leF, ltT, ltF, eqF, nleT, nleF, nltT, nltF, hgf]; rfl) ?_
    refine DW.condT (by simp (maxSteps := 200000) (disch := first | omega | (simp; done) | fail) [wrapI, leT, leF, ltT, ltF, eqF, nleT, nleF, nltT, nltF, hgf]) ?_
    refine DW.seq ?_
    refine DW.reg (by simp [hgf]; rfl) ?_
    refine DW.ghost (Ghost.wide 2 [5] 3 (by simp; rfl) (by simp)) ?_
    refine DW.ghost (Ghost.wide 2 [6] 16 (by simp; rfl) (by simp)) ?_
    refine DW.ghost (Ghost.wide 2 [7] 3 (by simp; rfl) (by simp)) ?_
    refine DW.ghost (Ghost.wide 2 [8] 1 (by simp; rfl) (by simp)) ?_
    refine DW.ghost (Ghost.wide 2 [9] 1 (by simp; rfl) (by simp)) ?_
    refine DW.ret ?_
    rw [hfin, hgf]
    simp [Tryz.results30]
end Go.Proofs.YtjjdjkkhhcbogaaGreat.DM
