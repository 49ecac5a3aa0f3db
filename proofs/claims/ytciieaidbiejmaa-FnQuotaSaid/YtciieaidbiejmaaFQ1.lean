import Derived.Test.YtciieaidbiejmaaAS13
namespace Go.Proofs.Ytciieaidbiejmaa.DM
set_option linter.unusedVariables false
set_option linter.unusedSimpArgs false
set_option maxRecDepth 4000
set_option maxHeartbeats 8000000
def geoG (g : Geo) : Prop := 1 ≤ g.Tenants ∧ g.Tenants ≤ 3 ∧ 6 ≤ g.Pages ∧ g.Pages ≤ 12 ∧ 3 ≤ g.Inodes ∧ g.Inodes ≤ 6 ∧ 1 ≤ g.Quota ∧ g.Quota ≤ g.Pages - 4
def askG (a : Ask) : Prop := a.Path.size ≤ 64 ∧ a.To.size ≤ 64 ∧ a.Text.size ≤ 1000
theorem l11Geo_ex (c : Cur) (kc : c.ok) : ∃ dz az, (∃ (g : Geo) (c1 : Cur), dz = Geo.d g ∧ az = [.ptr (curD c1)] ∧ c1.ok ∧ geoG g) ∧ Spec Try.prog 14 [.ptr (curD c)] [some 4] dz az := by
  refine Spec.introX Try.func14 rfl rfl Try.ntmps14 rfl (by simp) ?_
  obtain ⟨c1, c1e⟩ : ∃ x, belowC c 3 = x := ⟨_, rfl⟩
  have kc1 : c1.ok := c1e ▸ (belowC_ok kc 3).1
  obtain ⟨c2, c2e⟩ : ∃ x, belowC c1 7 = x := ⟨_, rfl⟩
  have kc2 : c2.ok := c2e ▸ (belowC_ok kc1 7).1
  obtain ⟨c3, c3e⟩ : ∃ x, belowC c2 4 = x := ⟨_, rfl⟩
  have kc3 : c3.ok := c3e ▸ (belowC_ok kc2 4).1
  obtain ⟨c4, c4e⟩ : ∃ x, belowC c3 (2 + belowV c1 7) = x := ⟨_, rfl⟩
  have kc4 : c4.ok := c4e ▸ (belowC_ok kc3 (2 + belowV c1 7)).1
  have q0 := belowV_bd c 3
  have p0 := q0.2 (by omega)
  have q1 := belowV_bd c1 7
  have p1 := q1.2 (by omega)
  have q2 := belowV_bd c2 4
  have p2 := q2.2 (by omega)
  have q3 := belowV_bd c3 (2 + belowV c1 7)
  have p3 := q3.2 (by omega)
  have wa : IntKind.i64.wrap (1 + belowV c 3) = 1 + belowV c 3 := wr _ (by omega) (by omega)
  have wb : IntKind.i64.wrap (6 + belowV c1 7) = 6 + belowV c1 7 := wr _ (by omega) (by omega)
  have wc : IntKind.i64.wrap (3 + belowV c2 4) = 3 + belowV c2 4 := wr _ (by omega) (by omega)
  have wd : IntKind.i64.wrap (1 + belowV c3 (2 + belowV c1 7)) = 1 + belowV c3 (2 + belowV c1 7) := wr _ (by omega) (by omega)
  have w2 : IntKind.i64.wrap (6 + belowV c1 7 - 4) = 2 + belowV c1 7 := (wr _ (by omega) (by omega)).trans (by omega)
  refine DX.seq ?_
  refine DX.reg (by simp (maxSteps := 200000) (disch := first | omega | (simp; done) | fail) [wrapI, leT, leF, ltT, ltF, eqF, nleT, nleF, nltT, nltF, mapV, pzR, inR, c1e, c2e, c3e, c4e, wa, wb, wc, wd, w2]; rfl) ?_
  refine DX.seq ?_
  refine DX.regs ?_
  refine RegOX.opN 1 (by simp [mapV, pzR, inR, c1e, c2e, c3e, c4e, wa, wb, wc, wd, w2]; rfl) ?_
  refine RegOX.step rfl (OpStep.callP (io := 0) (id := 0) (off := 0) (p := []) (sz := 3) (n := 1) (cs0 := curD c) rfl (by simp [callArgs]; rfl) (l01Below_spec c kc 3) (by simp) rfl rfl (by simp) rfl (by simp) (by simp) (by simp) (by simp [callArgs, FS.lend]; rfl) (by simp [rosOk, roA_, toRC, mapO]) (by simp [widen, ownV, ownC]) (by simp [finish, packDV, packD, ptBack]; rfl)) ?_
  refine RegOX.opN 2 (by simp [mapV, pzR, inR, c1e, c2e, c3e, c4e, wa, wb, wc, wd, w2]; rfl) ?_
  refine RegOX.step rfl (OpStep.callP (io := 0) (id := 0) (off := 0) (p := []) (sz := 3) (n := 1) (cs0 := curD c1) rfl (by simp [callArgs]; rfl) (l01Below_spec c1 kc1 7) (by simp) rfl rfl (by simp) rfl (by simp) (by simp) (by simp) (by simp [callArgs, FS.lend]; rfl) (by simp [rosOk, roA_, toRC, mapO]) (by simp [widen, ownV, ownC]) (by simp [finish, packDV, packD, ptBack]; rfl)) ?_
  refine RegOX.opN 2 (by simp [mapV, pzR, inR, c1e, c2e, c3e, c4e, wa, wb, wc, wd, w2]; rfl) ?_
  refine RegOX.step rfl (OpStep.callP (io := 0) (id := 0) (off := 0) (p := []) (sz := 3) (n := 1) (cs0 := curD c2) rfl (by simp [callArgs]; rfl) (l01Below_spec c2 kc2 4) (by simp) rfl rfl (by simp) rfl (by simp) (by simp) (by simp) (by simp [callArgs, FS.lend]; rfl) (by simp [rosOk, roA_, toRC, mapO]) (by simp [widen, ownV, ownC]) (by simp [finish, packDV, packD, ptBack]; rfl)) ?_
  refine RegOX.opN 4 (by simp [mapV, pzR, inR, c1e, c2e, c3e, c4e, wa, wb, wc, wd, w2]; rfl) ?_
  refine RegOX.nil ?_
  refine DX.norm [(0, _), (2, _), (3, _)] [(0, _), (2, _), (3, _)] [(0, _)] (by simp [mapV, pzR, inR, c1e, c2e, c3e, c4e, wa, wb, wc, wd, w2]; exact ⟨rfl, rfl, rfl⟩) (by simp [mapV, pzR, inR, c1e, c2e, c3e, c4e, wa, wb, wc, wd, w2]; exact ⟨rfl, rfl, rfl⟩) (by simp [mapV, pzR, inR, c1e, c2e, c3e, c4e, wa, wb, wc, wd, w2]; rfl) (by rfl) ?_
  refine DX.seq ?_
  refine DX.regs ?_
  refine RegOX.opN 4 (by simp [mapV, pzR, inR, c1e, c2e, c3e, c4e, wa, wb, wc, wd, w2]; rfl) ?_
  refine RegOX.step rfl (OpStep.callP (io := 0) (id := 0) (off := 0) (p := []) (sz := 3) (n := 1) (cs0 := curD c3) rfl (by simp [callArgs, wa, wb, wc, wd, w2]; rfl) (l01Below_spec c3 kc3 (2 + belowV c1 7)) (by simp) rfl rfl (by simp) rfl (by simp) (by simp) (by simp) (by simp [callArgs, FS.lend, wa, wb, wc, wd, w2]; rfl) (by simp [rosOk, roA_, toRC, mapO, wa, wb, wc, wd, w2]) (by simp [widen, ownV, ownC]) (by simp [finish, packDV, packD, ptBack]; rfl)) ?_
  refine RegOX.opN 3 (by simp [mapV, pzR, inR, c1e, c2e, c3e, c4e, wa, wb, wc, wd, w2]; rfl) ?_
  refine RegOX.nil ?_
  refine DX.norm [(2, _), (3, _)] [(0, _), (2, _), (3, _)] [(0, _)] (by simp [mapV, pzR, inR, c1e, c2e, c3e, c4e, wa, wb, wc, wd, w2]; exact ⟨rfl, rfl⟩) (by simp [mapV, pzR, inR, c1e, c2e, c3e, c4e, wa, wb, wc, wd, w2]; exact ⟨rfl, rfl, rfl⟩) (by simp [mapV, pzR, inR, c1e, c2e, c3e, c4e, wa, wb, wc, wd, w2]; rfl) (by rfl) ?_
  refine DX.seq ?_
  refine DX.reg (by simp [mapV, pzR, inR, c1e, c2e, c3e, c4e, wa, wb, wc, wd, w2]; rfl) ?_
  refine DX.ret ?_
  refine ⟨_, _, ⟨⟨1 + belowV c 3, 6 + belowV c1 7, 3 + belowV c2 4, 1 + belowV c3 (2 + belowV c1 7)⟩, c4, rfl, rfl, kc4, by simp only [geoG]; omega⟩, ?_⟩
  simp [Try.results14, mapV, pzR, inR, wa, wb, wc, wd, w2]
def pathL : List ByteArray := [⟨#[47]⟩, ⟨#[47, 97]⟩, ⟨#[47, 98]⟩, ⟨#[47, 99]⟩, ⟨#[47, 97, 47, 98]⟩, ⟨#[47, 97, 47, 99]⟩, ⟨#[47, 97, 47, 98, 47, 99]⟩, ⟨#[47, 98, 47, 97]⟩, ⟨#[47, 99, 47, 97]⟩, ⟨#[47, 100]⟩, ⟨#[47, 97, 98]⟩, ⟨#[47, 120, 49]⟩, ⟨#[47, 97, 47, 97, 98, 99, 100, 101, 102, 103]⟩]
@[simp] theorem pathL_len : pathL.length = 13 := rfl
def oddL : List ByteArray := [⟨#[]⟩, ⟨#[97]⟩, ⟨#[47, 47]⟩, ⟨#[47, 97, 47]⟩, ⟨#[47, 97, 47, 47, 98]⟩, ⟨#[47, 65]⟩, ⟨#[47, 97, 32, 98]⟩, ⟨#[47, 97, 98, 99, 100, 101, 102, 103, 104]⟩, ⟨#[47, 97, 47, 97, 98, 99, 100, 101, 102, 103, 104, 47, 98]⟩, ⟨#[47, 97, 98, 99, 100, 101, 102, 103, 104, 47, 65]⟩, ⟨#[47, 97, 98, 99, 100, 101, 102, 47, 97, 98, 99, 100, 101, 102, 47, 97, 98, 99, 100, 101, 102, 47, 97, 98, 99, 100, 101, 102, 47, 97, 98, 99, 100, 101, 102, 47, 97, 98, 99, 100, 101, 102, 47, 97, 98, 99, 100, 101, 102, 47, 97, 98, 99, 100, 101, 102, 47, 97, 98, 99]⟩, ⟨#[47, 97, 98, 99, 100, 101, 102, 47, 97, 98, 99, 100, 101, 102, 47, 97, 98, 99, 100, 101, 102, 47, 97, 98, 99, 100, 101, 102, 47, 97, 98, 99, 100, 101, 102, 47, 97, 98, 99, 100, 101, 102, 47, 97, 98, 99, 100, 101, 102, 47, 97, 98, 99, 100, 101, 102, 47, 97, 98, 99, 100]⟩, ⟨#[47, 0]⟩]
@[simp] theorem oddL_len : oddL.length = 13 := rfl
theorem pathL_sz : ∀ p ∈ pathL, p.size ≤ 64 := by decide
theorem oddL_sz : ∀ p ∈ oddL, p.size ≤ 64 := by decide
theorem l15Path_ex (c : Cur) (kc : c.ok) : ∃ dz az, (∃ (p : ByteArray) (c1 : Cur), dz = [ds p] ∧ az = [.ptr (curD c1)] ∧ c1.ok ∧ p.size ≤ 64) ∧ Spec Try.prog 50 [.ptr (curD c)] [none] dz az := by
  refine Spec.introX Try.func50 rfl rfl Try.ntmps50 rfl (by simp) ?_
  obtain ⟨c1, c1e⟩ : ∃ x, belowC c 13 = x := ⟨_, rfl⟩
  have kc1 : c1.ok := c1e ▸ (belowC_ok kc 13).1
  have hps := pathL_sz _ (pickS_mem pathL c (by simp))
  obtain ⟨p, hp⟩ : ∃ p, pickSV pathL c = p := ⟨_, rfl⟩
  rw [hp] at hps
  refine DX.seq ?_
  refine DX.reg (by simp (maxSteps := 200000) (disch := first | omega | (simp; done) | fail) [wrapI, leT, leF, ltT, ltF, eqF, nleT, nleF, nltT, nltF, mapV, pzR, inR, c1e, hp]; rfl) ?_
  refine DX.seq ?_
  refine DX.regs ?_
  refine RegOX.opN 2 (by simp (maxSteps := 200000) (disch := first | omega | (simp; done) | fail) [wrapI, leT, leF, ltT, ltF, eqF, nleT, nleF, nltT, nltF, mapV, pzR, inR, c1e, hp]; rfl) ?_
  refine RegOX.step rfl (pickS_inl [0] 0 4 c kc pathL (by simp) (by simp) rfl rfl (by decide) (by simp [callArgs, mapV, pzR, inR]) (by decide) (by simp [mapV, pzR, inR]) (by simp [pathL, mapV, pzR, inR]) (by simp)) ?_
  refine RegOX.opN 1 (by simp (maxSteps := 200000) (disch := first | omega | (simp; done) | fail) [wrapI, leT, leF, ltT, ltF, eqF, nleT, nleF, nltT, nltF, mapV, pzR, inR, c1e, hp]; rfl) ?_
  refine RegOX.nil ?_
  refine DX.ret ?_
  refine ⟨_, _, ⟨p, c1, rfl, rfl, kc1, hps⟩, ?_⟩
  simp [Try.results50, mapV, pzR, inR, c1e, hp]
theorem l15Any_ex (c : Cur) (kc : c.ok) : ∃ dz az, (∃ (p : ByteArray) (c1 : Cur), dz = [ds p] ∧ az = [.ptr (curD c1)] ∧ c1.ok ∧ p.size ≤ 64) ∧ Spec Try.prog 33 [.ptr (curD c)] [none] dz az := by
  refine Spec.introX Try.func33 rfl rfl Try.ntmps33 rfl (by simp) ?_
  obtain ⟨c1, c1e⟩ : ∃ x, belowC c 5 = x := ⟨_, rfl⟩
  have kc1 : c1.ok := c1e ▸ (belowC_ok kc 5).1
  refine DX.seq ?_
  refine DX.reg (by simp (maxSteps := 200000) (disch := first | omega | (simp; done) | fail) [wrapI, leT, leF, ltT, ltF, eqF, nleT, nleF, nltT, nltF, mapV, pzR, inR, c1e]; rfl) ?_
  refine DX.seq ?_
  refine DX.seq ?_
  refine DX.regs ?_
  refine RegOX.opN 1 (by simp (maxSteps := 200000) (disch := first | omega | (simp; done) | fail) [wrapI, leT, leF, ltT, ltF, eqF, nleT, nleF, nltT, nltF, mapV, pzR, inR, c1e]; rfl) ?_
  refine RegOX.step rfl (OpStep.callP (io := 0) (id := 0) (off := 0) (p := []) (sz := 3) (n := 1) (cs0 := curD c) rfl (by simp [callArgs]; rfl) (l01Once_spec c kc 5) (by simp) rfl rfl (by simp) rfl (by simp) (by simp) (by simp) (by simp [callArgs, FS.lend]; rfl) (by simp [rosOk, roA_, toRC, mapO]) (by simp [widen, ownV, ownC]) (by simp [finish, packDV, packD, ptBack]; rfl)) ?_
  refine RegOX.nil ?_
  refine DX.norm [(0, _), (4, _)] [(0, _)] [(0, _)] (by simp [mapV, pzR, inR, c1e]; exact ⟨rfl, rfl⟩) (by simp [mapV, pzR, inR, c1e]; rfl) (by simp [mapV, pzR, inR, c1e]; rfl) (by rfl) ?_
  refine DX.condB (by simp (maxSteps := 200000) (disch := first | omega | (simp; done) | fail) [wrapI, leT, leF, ltT, ltF, eqF, nleT, nleF, nltT, nltF, mapV, pzR, inR, c1e]; exact rfl) (fun hc0 => ?_) (fun hc0 => ?_)
  · obtain ⟨c2, c2e⟩ : ∃ x, belowC c1 13 = x := ⟨_, rfl⟩
    have kc2 : c2.ok := c2e ▸ (belowC_ok kc1 13).1
    have hps := oddL_sz _ (pickS_mem oddL c1 (by simp))
    obtain ⟨p, hp⟩ : ∃ p, pickSV oddL c1 = p := ⟨_, rfl⟩
    rw [hp] at hps
    refine DX.seq ?_
    refine DX.regs ?_
    refine RegOX.opN 2 (by simp (maxSteps := 200000) (disch := first | omega | (simp; done) | fail) [wrapI, leT, leF, ltT, ltF, eqF, nleT, nleF, nltT, nltF, mapV, pzR, inR, c1e, c2e, hp]; rfl) ?_
    refine RegOX.step rfl (pickS_inl [0] 0 6 c1 kc1 oddL (by simp) (by simp) rfl rfl (by decide) (by simp [callArgs, mapV, pzR, inR, c1e]) (by decide) (by simp [mapV, pzR, inR, c1e]) (by simp [oddL, mapV, pzR, inR, c1e]) (by simp [c1e])) ?_
    refine RegOX.opN 1 (by simp (maxSteps := 200000) (disch := first | omega | (simp; done) | fail) [wrapI, leT, leF, ltT, ltF, eqF, nleT, nleF, nltT, nltF, mapV, pzR, inR, c1e, c2e, hp]; rfl) ?_
    refine RegOX.nil ?_
    refine DX.ret ?_
    refine ⟨_, _, ⟨p, c2, rfl, rfl, kc2, hps⟩, ?_⟩
    simp [Try.results33, mapV, pzR, inR, c2e, hp]
  · obtain ⟨dz0, az0, ⟨p, c2, rfl, rfl, kc2, hps⟩, hL⟩ := l15Path_ex c1 kc1
    refine DX.skip ?_
    refine DX.seq ?_
    refine DX.regs ?_
    refine RegOX.opN 1 (by simp (maxSteps := 200000) (disch := first | omega | (simp; done) | fail) [wrapI, leT, leF, ltT, ltF, eqF, nleT, nleF, nltT, nltF, mapV, pzR, inR, c1e]; rfl) ?_
    refine RegOX.step rfl (OpStep.callP (io := 0) (id := 0) (off := 0) (p := []) (sz := 3) (n := 1) (cs0 := curD c1) rfl (by simp [callArgs]; rfl) hL (by simp) rfl rfl (by simp) rfl (by simp) (by simp) (by simp) (by simp [callArgs, FS.lend]; rfl) (by simp [rosOk, roA_, toRC, mapO]) (by simp [widen, ownV, ownC]) (by simp [finish, packDV, packD, ptBack]; rfl)) ?_
    refine RegOX.opN 1 (by simp (maxSteps := 200000) (disch := first | omega | (simp; done) | fail) [wrapI, leT, leF, ltT, ltF, eqF, nleT, nleF, nltT, nltF, mapV, pzR, inR, c1e]; rfl) ?_
    refine RegOX.nil ?_
    refine DX.ret ?_
    refine ⟨_, _, ⟨p, c2, rfl, rfl, kc2, hps⟩, ?_⟩
    simp [Try.results33, mapV, pzR, inR]
end Go.Proofs.Ytciieaidbiejmaa.DM
