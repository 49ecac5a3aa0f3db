import Derived.Test.YtjjdjkkhhcbogaaGreatFG15
namespace Go.Proofs.YtjjdjkkhhcbogaaGreat.DM
set_option linter.unusedVariables false
set_option linter.unusedSimpArgs false
set_option maxRecDepth 4000
set_option maxHeartbeats 8000000
theorem linesN_bd {g : Geo} (hg : GeoIn g) : 0 ≤ linesN g ∧ linesN g ≤ 1000 := by
  have hp := hg.p
  have hi := hg.i
  have h1 : 0 ≤ pw g ∧ pw g ≤ 134 := by unfold pw; omega
  have hm : 0 ≤ g.Tenants * pw g ∧ g.Tenants * pw g ≤ 3 * 134 := by
    have ht := hg.t
    exact ⟨Int.mul_nonneg (by omega) h1.1, Int.mul_le_mul ht.2 h1.2 h1.1 (by omega)⟩
  unfold linesN; omega
theorem partW_len {g : Geo} {p : Part} (t : Int) (hp : NewP g p) : (partW g t p).length = 2 + 8 * p.Inodes.length := by
  unfold partW writesOf
  have hok : stOk p.States p.States.length = true := by rw [(stOk_pages hp.st).1]; exact hp.st
  rw [List.length_append, writesFrom_len, inoWs_len g t _ _ (Nat.le_refl _)]
  simp [stWords, hok]
theorem partW_at {g : Geo} {t : Int} {p : Part} (ht : tenOk g t = true) (hp : NewP g p) : ∀ w ∈ partW g t p, 0 ≤ w.At := fun w hw => by
  obtain ⟨hg, -, -⟩ := tenIn ht
  have hii := hg.i
  have hl := hp.l
  rcases List.mem_append.1 hw with h | h
  · exact writesFrom_at _ _ _ (placeIn_bd ht (by omega) (by omega)).1 w h
  · exact inoWs_at (fun i hi => (inodeAt_bd ht (by omega) (by omega)).1) _ (Nat.le_refl _) w h
def partS (g : Geo) (t : Int) : List Step := durable (partW g t (partNew g))
theorem partS_len (g : Geo) (t : Int) (hg : GeoIn g) : (partS g t).length ≤ 200 := by
  have h1 := durable_len (partW g t (partNew g))
  have h2 := partW_len t (newP hg)
  have h3 := (newP hg).l
  have h4 := hg.i
  unfold partS; omega
def memF (g : Geo) : Nat → Memory
  | 0 => ⟨zeros ((linesN g).toNat * 16), []⟩
  | t + 1 => stepsM (memF g t) (partS g t)
theorem memF_bd (g : Geo) (hg : GeoIn g) : ∀ t, (memF g t).Kept.size = (linesN g).toNat * 16 ∧ (memF g t).Cells.length ≤ 200 * t
  | 0 => by simp [memF]
  | t + 1 => by
    have ih := memF_bd g hg t
    have h1 := stepsM_bd (partS g t) (memF g t)
    have h2 := partS_len g t hg
    exact ⟨by rw [memF, h1.1, ih.1], by rw [memF]; omega⟩
def fmtM (g : Geo) : Memory := if geoOk g = true then memF g g.Tenants.toNat else ⟨ByteArray.empty, []⟩
theorem tenOk_of {g : Geo} (h : geoOk g = true) {t : Nat} (ht : (t : Int) < g.Tenants) : tenOk g t = true := by
  simp only [tenOk, Bool.and_eq_true, inB_iff]
  exact ⟨h, by omega, by omega⟩

theorem specPartWrites_spec (g : Geo) (t : Int) (p : Part) (ht : tenOk g t = true) (hp : NewP g p) : Spec Tryz.prog 76 [raGeo g, ri t, raPart p] [none] [dr (partW g t p)] [raGeo g, ri t, raPart p] := by
  refine Spec.intro Tryz.func76 rfl rfl Tryz.ntmps76 rfl (by simp) ?_
  obtain ⟨hg, -, -⟩ := tenIn ht
  have hp0 := placeIn_bd (x := 0) ht (by omega) (by omega)
  refine DW.seq ?_
  refine DW.reg (by simp (maxSteps := 200000) (disch := first | omega | (simp; done) | fail) [wrapI, leT, leF, ltT, ltF, eqF, nleT, nleF, nltT, nltF]; rfl) ?_
  refine DW.seq ?_
  refine DW.seq ?_
  refine DW.regs ?_
  refine RegO.opN 2 (by simp (maxSteps := 200000) (disch := first | omega | (simp; done) | fail) [wrapI, leT, leF, ltT, ltF, eqF, nleT, nleF, nltT, nltF]; rfl) ?_
  refine RegO.step rfl (OpStep.callA rfl (by simp (maxSteps := 200000) (disch := first | omega | (simp; done) | fail) [wrapI, leT, leF, ltT, ltF, eqF, nleT, nleF, nltT, nltF]; exact ⟨rfl, rfl⟩) (by simp (maxSteps := 200000) (disch := first | omega | (simp; done) | fail) [wrapI, leT, leF, ltT, ltF, eqF, nleT, nleF, nltT, nltF]; rfl) (by exact specPartOk_spec g p hg hp) (by simp) (by simp (maxSteps := 200000) (disch := first | omega | (simp; done) | fail) [wrapI, leT, leF, ltT, ltF, eqF, nleT, nleF, nltT, nltF]; rfl)) ?_
  refine RegO.opN 4 (by simp (maxSteps := 200000) (disch := first | omega | (simp; done) | fail) [wrapI, leT, leF, ltT, ltF, eqF, nleT, nleF, nltT, nltF]; rfl) ?_
  refine RegO.stepT (by simp (maxSteps := 200000) (disch := first | omega | (simp; done) | fail) [wrapI, leT, leF, ltT, ltF, eqF, nleT, nleF, nltT, nltF]) (OpStep.callA rfl (by simp (maxSteps := 200000) (disch := first | omega | (simp; done) | fail) [wrapI, leT, leF, ltT, ltF, eqF, nleT, nleF, nltT, nltF]; exact ⟨rfl, rfl⟩) (by simp (maxSteps := 200000) (disch := first | omega | (simp; done) | fail) [wrapI, leT, leF, ltT, ltF, eqF, nleT, nleF, nltT, nltF]; rfl) (by exact specCommitAt_spec _ _) (by simp) (by simp (maxSteps := 200000) (disch := first | omega | (simp; done) | fail) [wrapI, leT, leF, ltT, ltF, eqF, nleT, nleF, nltT, nltF]; rfl)) ?_
  refine RegO.opN 2 (by simp (maxSteps := 200000) (disch := first | omega | (simp; done) | fail) [wrapI, leT, leF, ltT, ltF, eqF, nleT, nleF, nltT, nltF]; rfl) ?_
  refine RegO.nil ?_
  refine DW.condF (by simp (maxSteps := 200000) (disch := first | omega | (simp; done) | fail) [wrapI, leT, leF, ltT, ltF, eqF, nleT, nleF, nltT, nltF]) ?_
  refine DW.skip ?_
  refine DW.seq ?_
  refine DW.regs ?_
  refine RegO.opN 3 (by simp (maxSteps := 200000) (disch := first | omega | (simp; done) | fail) [wrapI, leT, leF, ltT, ltF, eqF, nleT, nleF, nltT, nltF]; rfl) ?_
  refine RegO.step rfl (OpStep.callA rfl (by simp (maxSteps := 200000) (disch := first | omega | (simp; done) | fail) [wrapI, leT, leF, ltT, ltF, eqF, nleT, nleF, nltT, nltF]; exact ⟨rfl, rfl⟩) (by simp (maxSteps := 200000) (disch := first | omega | (simp; done) | fail) [wrapI, leT, leF, ltT, ltF, eqF, nleT, nleF, nltT, nltF]; rfl) (by exact l14Writes_spec g t p ht hp) (by simp) (by simp (maxSteps := 200000) (disch := first | omega | (simp; done) | fail) [wrapI, leT, leF, ltT, ltF, eqF, nleT, nleF, nltT, nltF]; rfl)) ?_
  refine RegO.opN 1 (by simp (maxSteps := 200000) (disch := first | omega | (simp; done) | fail) [wrapI, leT, leF, ltT, ltF, eqF, nleT, nleF, nltT, nltF]; rfl) ?_
  refine RegO.nil ?_
  refine DW.ret ?_
  simp [Tryz.results76]
theorem specFormatMemory_spec (g : Geo) : Spec Tryz.prog 19 [raGeo g] [some 2] (dM (fmtM g)) [raGeo g] := by
  refine Spec.intro Tryz.func19 rfl rfl Tryz.ntmps19 rfl (by simp) ?_
  refine DW.seq ?_
  refine DW.reg (by simp (maxSteps := 200000) (disch := first | omega | (simp; done) | fail) [wrapI, leT, leF, ltT, ltF, eqF, nleT, nleF, nltT, nltF]; rfl) ?_
  refine DW.seq ?_
  refine DW.seq ?_
  rcases Bool.eq_false_or_eq_true (geoOk g) with hgt | hgf
  · have hgi := geoIn hgt
    have hit := hgi.t
    obtain ⟨n, hn⟩ := Int.eq_ofNat_of_zero_le (linesN_bd hgi).1
    have hnb := (linesN_bd hgi).2
    have hnp := newP hgi
    have hii := hgi.i
    have hnl := hnp.l
    have hpl : ∀ t, (partW g t (partNew g)).length = 2 + 8 * (partNew g).Inodes.length := fun t => partW_len t hnp
    have hpt : List.take g.Pages.toNat (rD (List.replicate g.Pages.toNat (0 : Int))) = rD (List.replicate g.Pages.toNat (0 : Int)) := List.take_of_length_le (by simp [rD_len_Int])
    have hm0 : memF g 0 = ⟨zeros (n * 16), []⟩ := by simp [memF, hn]
    have hfin : fmtM g = memF g g.Tenants.toNat := by simp [fmtM, hgt]
    refine DW.regs ?_
    refine RegO.opN 1 (by simp (maxSteps := 200000) (disch := first | omega | (simp; done) | fail) [wrapI, leT, leF, ltT, ltF, eqF, nleT, nleF, nltT, nltF, hgt]; rfl) ?_
    refine RegO.step rfl (OpStep.callA rfl (by simp (maxSteps := 200000) (disch := first | omega | (simp; done) | fail) [wrapI, leT, leF, ltT, ltF, eqF, nleT, nleF, nltT, nltF, hgt]; exact ⟨rfl, rfl⟩) (by simp (maxSteps := 200000) (disch := first | omega | (simp; done) | fail) [wrapI, leT, leF, ltT, ltF, eqF, nleT, nleF, nltT, nltF, hgt]; rfl) (by exact specGeoOk_spec _) (by simp) (by simp (maxSteps := 200000) (disch := first | omega | (simp; done) | fail) [wrapI, leT, leF, ltT, ltF, eqF, nleT, nleF, nltT, nltF, hgt]; rfl)) ?_
    refine RegO.opN 1 (by simp (maxSteps := 200000) (disch := first | omega | (simp; done) | fail) [wrapI, leT, leF, ltT, ltF, eqF, nleT, nleF, nltT, nltF, hgt]; rfl) ?_
    refine RegO.nil ?_
    refine DW.condF (by simp (maxSteps := 200000) (disch := first | omega | (simp; done) | fail) [wrapI, leT, leF, ltT, ltF, eqF, nleT, nleF, nltT, nltF, hgt]) ?_
    refine DW.skip ?_
    refine DW.seq ?_
    refine DW.regs ?_
    refine RegO.opN 1 (by simp [hgt]; rfl) ?_
    refine RegO.step rfl (OpStep.callA rfl (by simp [hgt]; exact ⟨rfl, rfl⟩) (by simp [hgt]; rfl) (by exact (hn ▸ linesIn_spec g hgi)) (by simp) (by simp [hgt]; rfl)) ?_
    refine RegO.step rfl (OpStep.callA rfl (by simp [hgt]; exact ⟨rfl, rfl⟩) (by simp [hgt]; rfl) (by exact specMemoryNew_spec n (by omega)) (by simp) (by simp [hgt]; rfl)) ?_
    refine RegO.opN 2 (by simp [hgt]; rfl) ?_
    refine RegO.nil ?_
    refine DW.seq ?_
    refine DW.seq ?_
    refine DW.reg (by simp (maxSteps := 200000) (disch := first | omega | (simp; done) | fail) [wrapI, leT, leF, ltT, ltF, eqF, nleT, nleF, nltT, nltF, hgt]; rfl) ?_
    refine DW.block ?_
    refine DW.loopS (α := Nat) (fun t => (t : Int) ≤ g.Tenants) (fun t => g.Tenants.toNat - t) (fun t => [(4, vi t)]) (fun t => [(3, .ow () 2 1 (dM (memF g t)))]) [(1, _), (2, _), (3, _)] [(1, _), (2, _)] [] 0 (by have := hgi.t; omega) (by simp [hm0]; exact ⟨rfl, rfl, rfl⟩) (by simp [hm0]; exact ⟨rfl, rfl⟩) (by simp) (by rfl) ?_
    intro t hti
    refine DW.seq ?_
    refine DW.seq ?_
    refine DW.reg (by simp (maxSteps := 200000) (disch := first | omega | (simp; done) | fail) [wrapI, leT, leF, ltT, ltF, eqF, nleT, nleF, nltT, nltF, hgt]; rfl) ?_
    refine DW.condB (by simp (maxSteps := 200000) (disch := first | omega | (simp; done) | fail) [wrapI, leT, leF, ltT, ltF, eqF, nleT, nleF, nltT, nltF, hgt]; exact rfl) (fun hc1 => ?_) (fun hc1 => ?_)
    · have hlt : (t : Int) < g.Tenants := by simpa using hc1
      have htt := tenOk_of hgt hlt
      have hmb := memF_bd g hgi t
      have hplt := hpl t
      have hms : memF g (t + 1) = stepsM (memF g t) (partS g t) := rfl
      have hSl := partS_len g t hgi
      have hSD : Spec Tryz.prog 50 [ra (partW g t (partNew g))] [none] [dr (partS g t)] [ra (partW g t (partNew g))] := specDurable_spec _ (by omega) (partW_at htt hnp) (by omega)
      have hPW : Spec Tryz.prog 76 [raGeo g, ri t, .agg [.r (.sc (.int .i64 0)), .r (.sl g.Pages.toNat (rR (List.replicate g.Pages.toNat (0 : Int)))), .r (.sl g.Inodes.toNat (rR (inos g.Inodes.toNat)))]] [none] [dr (partW g t (partNew g))] [raGeo g, ri t, .agg [.r (.sc (.int .i64 0)), .r (.sl g.Pages.toNat (rR (List.replicate g.Pages.toNat (0 : Int)))), .r (.sl g.Inodes.toNat (rR (inos g.Inodes.toNat)))]] := by
        have h := specPartWrites_spec g t (partNew g) htt hnp
        simpa only [raPart, partNew, List.length_replicate, inos_len] using h
      generalize memF g t = m at hmb hms
      generalize partS g t = X at hms hSl hSD
      refine DW.skip ?_
      refine DW.seq ?_
      refine DW.block ?_
      refine DW.drawn mixed (by kernel_rfl) ?_
      refine RegD.addN 4 (by simp [hgt, hlt, partD, partNew, rD_len_Int, hpt]; (first | (simp (disch := omega) only [wrapI]; done) | (simp (disch := omega) only [wrapI]; exact ⟨rfl, rfl⟩) | skip); (first | done | exact ⟨rfl, rfl⟩ | rfl)) ?_
      refine RegD.cert (Cert.callHA rfl (by simp) rfl (by decide) (by simp [hgt, hlt, partD, partNew, rD_len_Int, hpt]; exact ⟨rfl, rfl⟩) (by simp [hgt, hlt, partD, partNew, rD_len_Int, hpt]; rfl) (by exact specPartNew_spec g hgi) rfl (by simp [partD]) (by simp [partD]) (by simp [partD]; rfl) rfl) ?_
      refine RegD.cert (Cert.callHA rfl (by simp) rfl (by decide) (by simp [hgt, hlt, partD, partNew, rD_len_Int, hpt]; exact ⟨rfl, rfl⟩) (by simp [hgt, hlt, partD, partNew, rD_len_Int, hpt]; rfl) (by exact hPW) rfl (by simp) (by simp) (by simp; rfl) rfl) ?_
      refine RegD.cert (Cert.callHA rfl (by simp) rfl (by decide) (by simp [hgt, hlt, partD, partNew, rD_len_Int, hpt]; exact ⟨rfl, rfl⟩) (by simp [hgt, hlt, partD, partNew, rD_len_Int, hpt]; rfl) (by exact hSD) rfl (by simp) (by simp) (by simp; rfl) rfl) ?_
      refine RegD.cert (Cert.callHA rfl (by simp) rfl (by decide) (by simp [hgt, hlt, partD, partNew, rD_len_Int, hpt]; exact ⟨rfl, rfl⟩) (by simp [hgt, hlt, partD, partNew, rD_len_Int, hpt]; rfl) (by exact specSteps_spec m.Kept m.Cells X (by omega) (by omega)) rfl (by simp) (by simp) (by simp; rfl) rfl) ?_
      refine RegD.heavyF (by simp) (by simp [hgt, hlt, partD, partNew, rD_len_Int, hpt]; rfl) ?_
      refine RegD.nil ⟨by kernel_rfl, ?_⟩
      refine DW.norm [(1, _), (2, _), (3, _), (4, _)] [(1, _), (2, _), (3, _)] [] (by simp [hgt, hlt]; exact ⟨rfl, rfl, rfl, rfl⟩) (by simp [hgt, hlt]; exact ⟨rfl, rfl, rfl⟩) (by simp [hgt, hlt]) (by rfl) ?_
      refine DW.reg (by simp (maxSteps := 200000) (disch := first | omega | (simp; done) | fail) [wrapI, leT, leF, ltT, ltF, eqF, nleT, nleF, nltT, nltF, hgt, hlt]; rfl) ?_
      exact ⟨t + 1, by omega, by omega, by simp, by simp [hms], by simp, by rfl⟩
    · have hil : t = g.Tenants.toNat := by
        have : ¬ (t : Int) < g.Tenants := by simpa using hc1
        omega
      subst hil
      refine DW.exit ?_
      refine DW.seq ?_
      refine DW.reg (by simp [hgt]; rfl) ?_
      refine DW.ret ?_
      rw [hfin]
      simp [Tryz.results19]
  · have hfin : fmtM g = ⟨ByteArray.empty, []⟩ := by simp [fmtM, hgf]
    refine DW.regs ?_
    refine RegO.opN 1 (by simp (maxSteps := 200000) (disch := first | omega | (simp; done) | fail) [wrapI, leT, leF, ltT, ltF, eqF, nleT, nleF, nltT, nltF, hgf]; rfl) ?_
    refine RegO.step rfl (OpStep.callA rfl (by simp (maxSteps := 200000) (disch := first | omega | (simp; done) | fail) [wrapI, leT, leF, ltT, ltF, eqF, nleT, nleF, nltT, nltF, hgf]; exact ⟨rfl, rfl⟩) (by simp (maxSteps := 200000) (disch := first | omega | (simp; done) | fail) [wrapI, leT, leF, ltT, ltF, eqF, nleT, nleF, nltT, nltF, hgf]; rfl) (by exact specGeoOk_spec _) (by simp) (by simp (maxSteps := 200000) (disch := first | omega | (simp; done) | fail) [wrapI, leT, leF, ltT, ltF, eqF, nleT, nleF, nltT, nltF, hgf]; rfl)) ?_
    refine RegO.opN 1 (by simp (maxSteps := 200000) (disch := first | omega | (simp; done) | fail) [wrapI, leT, leF, ltT, ltF, eqF, nleT, nleF, nltT, nltF, hgf]; rfl) ?_
    refine RegO.nil ?_
    refine DW.condT (by simp (maxSteps := 200000) (disch := first | omega | (simp; done) | fail) [wrapI, leT, leF, ltT, ltF, eqF, nleT, nleF, nltT, nltF, hgf]) ?_
    refine DW.seq ?_
    refine DW.reg (by simp [hgf]; rfl) ?_
    refine DW.ghost (Ghost.wide 2 [1] 3 (by simp; rfl) (by simp)) ?_
    refine DW.ret ?_
    rw [hfin]
    simp [Tryz.results19]
theorem implFormatMemory_spec (g : Geo) : Spec Tryz.prog 20 [raGeo g] [some 2] (dM (fmtM g)) [raGeo g] := by
  refine Spec.intro Tryz.func20 rfl rfl Tryz.ntmps20 rfl (by simp) ?_
  refine DW.seq ?_
  refine DW.reg (by simp (maxSteps := 200000) (disch := first | omega | (simp; done) | fail) [wrapI, leT, leF, ltT, ltF, eqF, nleT, nleF, nltT, nltF]; rfl) ?_
  refine DW.seq ?_
  refine DW.seq ?_
  rcases Bool.eq_false_or_eq_true (geoOk g) with hgt | hgf
  · have hgi := geoIn hgt
    have hit := hgi.t
    obtain ⟨n, hn⟩ := Int.eq_ofNat_of_zero_le (linesN_bd hgi).1
    have hnb := (linesN_bd hgi).2
    have hnp := newP hgi
    have hii := hgi.i
    have hnl := hnp.l
    have hpl : ∀ t, (partW g t (partNew g)).length = 2 + 8 * (partNew g).Inodes.length := fun t => partW_len t hnp
    have hpt : List.take g.Pages.toNat (rD (List.replicate g.Pages.toNat (0 : Int))) = rD (List.replicate g.Pages.toNat (0 : Int)) := List.take_of_length_le (by simp [rD_len_Int])
    have hm0 : memF g 0 = ⟨zeros (n * 16), []⟩ := by simp [memF, hn]
    have hfin : fmtM g = memF g g.Tenants.toNat := by simp [fmtM, hgt]
    refine DW.regs ?_
    refine RegO.opN 1 (by simp (maxSteps := 200000) (disch := first | omega | (simp; done) | fail) [wrapI, leT, leF, ltT, ltF, eqF, nleT, nleF, nltT, nltF, hgt]; rfl) ?_
    refine RegO.step rfl (OpStep.callA rfl (by simp (maxSteps := 200000) (disch := first | omega | (simp; done) | fail) [wrapI, leT, leF, ltT, ltF, eqF, nleT, nleF, nltT, nltF, hgt]; exact ⟨rfl, rfl⟩) (by simp (maxSteps := 200000) (disch := first | omega | (simp; done) | fail) [wrapI, leT, leF, ltT, ltF, eqF, nleT, nleF, nltT, nltF, hgt]; rfl) (by exact implGeoOk_spec _) (by simp) (by simp (maxSteps := 200000) (disch := first | omega | (simp; done) | fail) [wrapI, leT, leF, ltT, ltF, eqF, nleT, nleF, nltT, nltF, hgt]; rfl)) ?_
    refine RegO.opN 1 (by simp (maxSteps := 200000) (disch := first | omega | (simp; done) | fail) [wrapI, leT, leF, ltT, ltF, eqF, nleT, nleF, nltT, nltF, hgt]; rfl) ?_
    refine RegO.nil ?_
    refine DW.condF (by simp (maxSteps := 200000) (disch := first | omega | (simp; done) | fail) [wrapI, leT, leF, ltT, ltF, eqF, nleT, nleF, nltT, nltF, hgt]) ?_
    refine DW.skip ?_
    refine DW.seq ?_
    refine DW.regs ?_
    refine RegO.opN 1 (by simp [hgt]; rfl) ?_
    refine RegO.step rfl (OpStep.callA rfl (by simp [hgt]; exact ⟨rfl, rfl⟩) (by simp [hgt]; rfl) (by exact (hn ▸ lines_spec g hgi)) (by simp) (by simp [hgt]; rfl)) ?_
    refine RegO.step rfl (OpStep.callA rfl (by simp [hgt]; exact ⟨rfl, rfl⟩) (by simp [hgt]; rfl) (by exact implMemoryNew_spec n (by omega)) (by simp) (by simp [hgt]; rfl)) ?_
    refine RegO.opN 2 (by simp [hgt]; rfl) ?_
    refine RegO.nil ?_
    refine DW.seq ?_
    refine DW.seq ?_
    refine DW.reg (by simp (maxSteps := 200000) (disch := first | omega | (simp; done) | fail) [wrapI, leT, leF, ltT, ltF, eqF, nleT, nleF, nltT, nltF, hgt]; rfl) ?_
    refine DW.block ?_
    refine DW.loopS (α := Nat) (fun t => (t : Int) ≤ g.Tenants) (fun t => g.Tenants.toNat - t) (fun t => [(14, vi t)]) (fun t => [(3, .ow () 2 1 (dM (memF g t)))]) [(1, _), (2, _), (3, _), (13, _)] [(1, _), (2, _)] [] 0 (by have := hgi.t; omega) (by simp [hm0]; exact ⟨rfl, rfl, rfl, rfl⟩) (by simp [hm0]; exact ⟨rfl, rfl⟩) (by simp) (by rfl) ?_
    intro t hti
    refine DW.seq ?_
    refine DW.reg (by simp (maxSteps := 200000) (disch := first | omega | (simp; done) | fail) [wrapI, leT, leF, ltT, ltF, eqF, nleT, nleF, nltT, nltF, hgt]; rfl) ?_
    refine DW.seq ?_
    refine DW.condB (by simp (maxSteps := 200000) (disch := first | omega | (simp; done) | fail) [wrapI, leT, leF, ltT, ltF, eqF, nleT, nleF, nltT, nltF, hgt]; exact rfl) (fun hc1 => ?_) (fun hc1 => ?_)
    · have hlt : (t : Int) < g.Tenants := by simpa using hc1
      have htt := tenOk_of hgt hlt
      have hmb := memF_bd g hgi t
      have hplt := hpl t
      have hms : memF g (t + 1) = stepsM (memF g t) (partS g t) := rfl
      have hSl := partS_len g t hgi
      have hSD : Spec Tryz.prog 64 [ra (partW g t (partNew g))] [none] [dr (partS g t)] [ra (partW g t (partNew g))] := implDurable_spec _ (by omega) (partW_at htt hnp) (by omega)
      have hPW : Spec Tryz.prog 82 [raGeo g, ri t, .agg [.r (.sc (.int .i64 0)), .r (.sl g.Pages.toNat (rR (List.replicate g.Pages.toNat (0 : Int)))), .r (.sl g.Inodes.toNat (rR (inos g.Inodes.toNat)))]] [none] [dr (partW g t (partNew g))] [raGeo g, ri t, .agg [.r (.sc (.int .i64 0)), .r (.sl g.Pages.toNat (rR (List.replicate g.Pages.toNat (0 : Int)))), .r (.sl g.Inodes.toNat (rR (inos g.Inodes.toNat)))]] := by
        have h := implPartWrites_spec g t (partNew g) htt hnp
        simpa only [raPart, partNew, List.length_replicate, inos_len] using h
      generalize memF g t = m at hmb hms
      generalize partS g t = X at hms hSl hSD
      refine DW.skip ?_
      refine DW.seq ?_
      refine DW.block ?_
      refine DW.seq ?_
      refine DW.reg (by simp (maxSteps := 200000) (disch := first | omega | (simp; done) | fail) [wrapI, leT, leF, ltT, ltF, eqF, nleT, nleF, nltT, nltF, hgt, hlt]; rfl) ?_
      refine DW.drawn mixed (by kernel_rfl) ?_
      refine RegD.addN 4 (by simp [hgt, hlt, partD, partNew, rD_len_Int, hpt]; (first | (simp (disch := omega) only [wrapI]; done) | (simp (disch := omega) only [wrapI]; exact ⟨rfl, rfl⟩) | skip); (first | done | exact ⟨rfl, rfl⟩ | rfl)) ?_
      refine RegD.cert (Cert.callHA rfl (by simp) rfl (by decide) (by simp [hgt, hlt, partD, partNew, rD_len_Int, hpt]; exact ⟨rfl, rfl⟩) (by simp [hgt, hlt, partD, partNew, rD_len_Int, hpt]; rfl) (by exact implPartNew_spec g hgi) rfl (by simp [partD]) (by simp [partD]) (by simp [partD]; rfl) rfl) ?_
      refine RegD.cert (Cert.callHA rfl (by simp) rfl (by decide) (by simp [hgt, hlt, partD, partNew, rD_len_Int, hpt]; exact ⟨rfl, rfl⟩) (by simp [hgt, hlt, partD, partNew, rD_len_Int, hpt]; rfl) (by exact hPW) rfl (by simp) (by simp) (by simp; rfl) rfl) ?_
      refine RegD.cert (Cert.callHA rfl (by simp) rfl (by decide) (by simp [hgt, hlt, partD, partNew, rD_len_Int, hpt]; exact ⟨rfl, rfl⟩) (by simp [hgt, hlt, partD, partNew, rD_len_Int, hpt]; rfl) (by exact hSD) rfl (by simp) (by simp) (by simp; rfl) rfl) ?_
      refine RegD.cert (Cert.callHA rfl (by simp) rfl (by decide) (by simp [hgt, hlt, partD, partNew, rD_len_Int, hpt]; exact ⟨rfl, rfl⟩) (by simp [hgt, hlt, partD, partNew, rD_len_Int, hpt]; rfl) (by exact runSteps_spec m.Kept m.Cells X (by omega) (by omega)) rfl (by simp) (by simp) (by simp; rfl) rfl) ?_
      refine RegD.heavyF (by simp) (by simp [hgt, hlt, partD, partNew, rD_len_Int, hpt]; rfl) ?_
      refine RegD.nil ⟨by kernel_rfl, ?_⟩
      refine DW.norm [(1, _), (2, _), (3, _), (13, _), (14, _)] [(1, _), (2, _), (3, _)] [] (by simp [hgt, hlt]; exact ⟨rfl, rfl, rfl, rfl, rfl⟩) (by simp [hgt, hlt]; exact ⟨rfl, rfl, rfl⟩) (by simp [hgt, hlt]) (by rfl) ?_
      refine DW.reg (by simp (maxSteps := 200000) (disch := first | omega | (simp; done) | fail) [wrapI, leT, leF, ltT, ltF, eqF, nleT, nleF, nltT, nltF, hgt, hlt]; rfl) ?_
      exact ⟨t + 1, by omega, by omega, by simp, by simp [hms], by simp, by rfl⟩
    · have hil : t = g.Tenants.toNat := by
        have : ¬ (t : Int) < g.Tenants := by simpa using hc1
        omega
      subst hil
      refine DW.exit ?_
      refine DW.seq ?_
      refine DW.reg (by simp [hgt]; rfl) ?_
      refine DW.ret ?_
      rw [hfin]
      simp [Tryz.results20]
  · have hfin : fmtM g = ⟨ByteArray.empty, []⟩ := by simp [fmtM, hgf]
    refine DW.regs ?_
    refine RegO.opN 1 (by simp (maxSteps := 200000) (disch := first | omega | (simp; done) | fail) [wrapI, leT, leF, ltT, ltF, eqF, nleT, nleF, nltT, nltF, hgf]; rfl) ?_
    refine RegO.step rfl (OpStep.callA rfl (by simp (maxSteps := 200000) (disch := first | omega | (simp; done) | fail) [wrapI, leT, leF, ltT, ltF, eqF, nleT, nleF, nltT, nltF, hgf]; exact ⟨rfl, rfl⟩) (by simp (maxSteps := 200000) (disch := first | omega | (simp; done) | fail) [wrapI, leT, leF, ltT, ltF, eqF, nleT, nleF, nltT, nltF, hgf]; rfl) (by exact implGeoOk_spec _) (by simp) (by simp (maxSteps := 200000) (disch := first | omega | (simp; done) | fail) [wrapI, leT, leF, ltT, ltF, eqF, nleT, nleF, nltT, nltF, hgf]; rfl)) ?_
    refine RegO.opN 1 (by simp (maxSteps := 200000) (disch := first | omega | (simp; done) | fail) [wrapI, leT, leF, ltT, ltF, eqF, nleT, nleF, nltT, nltF, hgf]; rfl) ?_
    refine RegO.nil ?_
    refine DW.condT (by simp (maxSteps := 200000) (disch := first | omega | (simp; done) | fail) [wrapI, leT, leF, ltT, ltF, eqF, nleT, nleF, nltT, nltF, hgf]) ?_
    refine DW.seq ?_
    refine DW.reg (by simp [hgf]; rfl) ?_
    refine DW.ghost (Ghost.wide 2 [1] 3 (by simp; rfl) (by simp)) ?_
    refine DW.ret ?_
    rw [hfin]
    simp [Tryz.results20]
end Go.Proofs.YtjjdjkkhhcbogaaGreat.DM
