import Derived.Test.YtciieaidbiejmaaFQ2
namespace Go.Proofs.Ytciieaidbiejmaa.DM
set_option linter.unusedVariables false
set_option linter.unusedSimpArgs false
set_option maxRecDepth 4000
set_option maxHeartbeats 8000000
def oddK : List Int := [0, 12, -1]
@[simp] theorem oddK_len : oddK.length = 3 := rfl
def oddO : List Int := [-1, 9223372036854775807, 127, 128, 129]
@[simp] theorem oddO_len : oddO.length = 5 := rfl
def oddN : List Int := [-1, 9223372036854775807]
@[simp] theorem oddN_len : oddN.length = 2 := rfl
def oddT : List Int := [128, 129, 200, 201]
@[simp] theorem oddT_len : oddT.length = 4 := rfl
theorem oddT_bd : ∀ x ∈ oddT, 0 ≤ x ∧ x ≤ 201 := by decide
theorem l17Any_ex (c : Cur) (kc : c.ok) : ∃ dz az, (∃ (a : Ask) (c1 : Cur), dz = Ask.d a ∧ az = [.ptr (curD c1)] ∧ c1.ok ∧ askG a) ∧ Spec Try.prog 16 [.ptr (curD c)] [some 6] dz az := by
  refine Spec.introX Try.func16 rfl rfl Try.ntmps16 rfl (by simp) ?_
  obtain ⟨dz0, az0, ⟨a, c1, rfl, rfl, kc1, g1, g2, g3⟩, hL⟩ := l17Ask_ex c kc
  obtain ⟨c2, c2e⟩ : ∃ x, belowC c1 12 = x := ⟨_, rfl⟩
  have kc2 : c2.ok := c2e ▸ (belowC_ok kc1 12).1
  refine DX.seq ?_
  refine DX.reg (by simp (maxSteps := 200000) (disch := first | omega | (simp; done) | fail) [wrapI, leT, leF, ltT, ltF, eqF, nleT, nleF, nltT, nltF, mapV, pzR, inR, c2e]; rfl) ?_
  refine DX.seq ?_
  refine DX.regs ?_
  refine RegOX.opN 1 (by simp [mapV, pzR, inR, c2e]; rfl) ?_
  refine RegOX.step rfl (OpStep.callP (io := 0) (id := 0) (off := 0) (p := []) (sz := 3) (n := 1) (cs0 := curD c) rfl (by simp [callArgs]; rfl) hL (by simp) rfl rfl (by simp) rfl (by simp) (by simp) (by simp) (by simp [callArgs, FS.lend]; rfl) (by simp [rosOk, roA_, toRC, mapO]) (by simp [widen, ownV, ownC]) (by simp [finish, packDV, packD, ptBack]; rfl)) ?_
  refine RegOX.opN 2 (by simp [mapV, pzR, inR, c2e]; rfl) ?_
  refine RegOX.nil ?_
  refine DX.norm [(0, _), (2, _), (3, _)] [(0, _), (2, _), (3, _)] [(0, _)] (by simp [mapV, pzR, inR, c2e]; exact ⟨rfl, rfl, rfl⟩) (by simp [mapV, pzR, inR, c2e]; exact ⟨rfl, rfl, rfl⟩) (by simp [mapV, pzR, inR, c2e]; rfl) (by rfl) ?_
  refine DX.seq ?_
  refine DX.seq ?_
  refine DX.regs ?_
  refine RegOX.opN 1 (by simp (maxSteps := 200000) (disch := first | omega | (simp; done) | fail) [wrapI, leT, leF, ltT, ltF, eqF, nleT, nleF, nltT, nltF, mapV, pzR, inR, c2e]; rfl) ?_
  refine RegOX.step rfl (OpStep.callP (io := 0) (id := 0) (off := 0) (p := []) (sz := 3) (n := 1) (cs0 := curD c1) rfl (by simp [callArgs]; rfl) (l01Below_spec c1 kc1 12) (by simp) rfl rfl (by simp) rfl (by simp) (by simp) (by simp) (by simp [callArgs, FS.lend]; rfl) (by simp [rosOk, roA_, toRC, mapO]) (by simp [widen, ownV, ownC]) (by simp [finish, packDV, packD, ptBack]; rfl)) ?_
  refine RegOX.nil ?_
  refine DX.norm [(0, _), (2, _), (3, _), (7, _)] [(0, _), (2, _), (3, _)] [(0, _)] (by simp [mapV, pzR, inR, c2e]; exact ⟨rfl, rfl, rfl, rfl⟩) (by simp [mapV, pzR, inR, c2e]; exact ⟨rfl, rfl, rfl⟩) (by simp [mapV, pzR, inR, c2e]; rfl) (by rfl) ?_
  refine DX.block ?_
  refine DX.seq ?_
  refine DX.reg (by simp (maxSteps := 200000) (disch := first | omega | (simp; done) | fail) [wrapI, leT, leF, ltT, ltF, eqF, nleT, nleF, nltT, nltF, mapV, pzR, inR, c2e]; rfl) ?_
  refine DX.condB (by simp (maxSteps := 200000) (disch := first | omega | (simp; done) | fail) [wrapI, leT, leF, ltT, ltF, eqF, nleT, nleF, nltT, nltF, mapV, pzR, inR, c2e]; exact rfl) (fun hc0 => ?_) (fun hc0 => ?_)
  · obtain ⟨c3, c3e⟩ : ∃ x, belowC c2 3 = x := ⟨_, rfl⟩
    have kc3 : c3.ok := c3e ▸ (belowC_ok kc2 3).1
    have rK : True := trivial
    refine DX.regs ?_
    refine RegOX.opN 2 (by simp [mapV, pzR, inR, c2e, c3e, rK]; rfl) ?_
    refine RegOX.step rfl (pick_inl [0, 2, 3] 0 11 c2 kc2 oddK (by simp) (by simp) rfl rfl (by decide) (by simp [callArgs, mapV, pzR, inR]) (by decide) (by simp [mapV, pzR, inR]) (by simp [oddK, mapV, pzR, inR]) (by simp)) ?_
    refine RegOX.opN 2 (by simp [mapV, pzR, inR, c2e, c3e, rK]; rfl) ?_
    refine RegOX.nil ?_
    refine DX.norm [(2, _), (3, _)] [(0, _), (2, _), (3, _)] [(0, _)] (by simp [mapV, pzR, inR, c2e, c3e, rK]; exact ⟨rfl, rfl⟩) (by simp [mapV, pzR, inR, c2e, c3e, rK]; exact ⟨rfl, rfl, rfl⟩) (by simp [mapV, pzR, inR, c2e, c3e, rK]; rfl) (by rfl) ?_
    refine DX.seq ?_
    refine DX.reg (by simp [mapV, pzR, inR, c2e, c3e, rK]; rfl) ?_
    refine DX.ret ?_
    refine ⟨_, _, ⟨⟨pickV oddK c2, a.Path, a.To, a.Off, a.Len, a.Text⟩, c3, rfl, rfl, kc3, by refine ⟨?_, ?_, ?_⟩ <;> (simp only []; first | exact g1 | exact g2 | exact g3 | exact ps | omega)⟩, ?_⟩
    simp [Try.results16, mapV, pzR, inR]
  · skip
    refine DX.seq ?_
    refine DX.reg (by simp (maxSteps := 200000) (disch := first | omega | (simp; done) | fail) [wrapI, leT, leF, ltT, ltF, eqF, nleT, nleF, nltT, nltF, mapV, pzR, inR, c2e]; rfl) ?_
    refine DX.condB (by simp (maxSteps := 200000) (disch := first | omega | (simp; done) | fail) [wrapI, leT, leF, ltT, ltF, eqF, nleT, nleF, nltT, nltF, mapV, pzR, inR, c2e]; exact rfl) (fun hc1 => ?_) (fun hc1 => ?_)
    · obtain ⟨dz3, az3, ⟨p, c3, rfl, rfl, kc3, ps⟩, hL3⟩ := l15Any_ex c2 kc2
      have rP : True := trivial
      refine DX.regs ?_
      refine RegOX.opN 1 (by simp [mapV, pzR, inR, c2e, rP]; rfl) ?_
      refine RegOX.step rfl (OpStep.callP (io := 0) (id := 0) (off := 0) (p := []) (sz := 3) (n := 1) (cs0 := curD c2) rfl (by simp [callArgs]; rfl) hL3 (by simp) rfl rfl (by simp) rfl (by simp) (by simp) (by simp) (by simp [callArgs, FS.lend]; rfl) (by simp [rosOk, roA_, toRC, mapO]) (by simp [widen, ownV, ownC]) (by simp [finish, packDV, packD, ptBack]; rfl)) ?_
      refine RegOX.opN 2 (by simp [mapV, pzR, inR, c2e, rP]; rfl) ?_
      refine RegOX.nil ?_
      refine DX.norm [(2, _), (3, _)] [(0, _), (2, _), (3, _)] [(0, _)] (by simp [mapV, pzR, inR, c2e, rP]; exact ⟨rfl, rfl⟩) (by simp [mapV, pzR, inR, c2e, rP]; exact ⟨rfl, rfl, rfl⟩) (by simp [mapV, pzR, inR, c2e, rP]; rfl) (by rfl) ?_
      refine DX.seq ?_
      refine DX.reg (by simp [mapV, pzR, inR, c2e, rP]; rfl) ?_
      refine DX.ret ?_
      refine ⟨_, _, ⟨⟨a.Kind, p, a.To, a.Off, a.Len, a.Text⟩, c3, rfl, rfl, kc3, by refine ⟨?_, ?_, ?_⟩ <;> (simp only []; first | exact g1 | exact g2 | exact g3 | exact ps | omega)⟩, ?_⟩
      simp [Try.results16, mapV, pzR, inR]
    · skip
      refine DX.seq ?_
      refine DX.reg (by simp (maxSteps := 200000) (disch := first | omega | (simp; done) | fail) [wrapI, leT, leF, ltT, ltF, eqF, nleT, nleF, nltT, nltF, mapV, pzR, inR, c2e]; rfl) ?_
      refine DX.condB (by simp (maxSteps := 200000) (disch := first | omega | (simp; done) | fail) [wrapI, leT, leF, ltT, ltF, eqF, nleT, nleF, nltT, nltF, mapV, pzR, inR, c2e]; exact rfl) (fun hc2 => ?_) (fun hc2 => ?_)
      · obtain ⟨dz3, az3, ⟨p, c3, rfl, rfl, kc3, ps⟩, hL3⟩ := l15Any_ex c2 kc2
        have rT2 : True := trivial
        refine DX.regs ?_
        refine RegOX.opN 1 (by simp [mapV, pzR, inR, c2e, rT2]; rfl) ?_
        refine RegOX.step rfl (OpStep.callP (io := 0) (id := 0) (off := 0) (p := []) (sz := 3) (n := 1) (cs0 := curD c2) rfl (by simp [callArgs]; rfl) hL3 (by simp) rfl rfl (by simp) rfl (by simp) (by simp) (by simp) (by simp [callArgs, FS.lend]; rfl) (by simp [rosOk, roA_, toRC, mapO]) (by simp [widen, ownV, ownC]) (by simp [finish, packDV, packD, ptBack]; rfl)) ?_
        refine RegOX.opN 2 (by simp [mapV, pzR, inR, c2e, rT2]; rfl) ?_
        refine RegOX.nil ?_
        refine DX.norm [(2, _), (3, _)] [(0, _), (2, _), (3, _)] [(0, _)] (by simp [mapV, pzR, inR, c2e, rT2]; exact ⟨rfl, rfl⟩) (by simp [mapV, pzR, inR, c2e, rT2]; exact ⟨rfl, rfl, rfl⟩) (by simp [mapV, pzR, inR, c2e, rT2]; rfl) (by rfl) ?_
        refine DX.seq ?_
        refine DX.reg (by simp [mapV, pzR, inR, c2e, rT2]; rfl) ?_
        refine DX.ret ?_
        refine ⟨_, _, ⟨⟨a.Kind, a.Path, p, a.Off, a.Len, a.Text⟩, c3, rfl, rfl, kc3, by refine ⟨?_, ?_, ?_⟩ <;> (simp only []; first | exact g1 | exact g2 | exact g3 | exact ps | omega)⟩, ?_⟩
        simp [Try.results16, mapV, pzR, inR]
      · skip
        refine DX.seq ?_
        refine DX.reg (by simp (maxSteps := 200000) (disch := first | omega | (simp; done) | fail) [wrapI, leT, leF, ltT, ltF, eqF, nleT, nleF, nltT, nltF, mapV, pzR, inR, c2e]; rfl) ?_
        refine DX.condB (by simp (maxSteps := 200000) (disch := first | omega | (simp; done) | fail) [wrapI, leT, leF, ltT, ltF, eqF, nleT, nleF, nltT, nltF, mapV, pzR, inR, c2e]; exact rfl) (fun hc3 => ?_) (fun hc3 => ?_)
        · obtain ⟨c3, c3e⟩ : ∃ x, belowC c2 5 = x := ⟨_, rfl⟩
          have kc3 : c3.ok := c3e ▸ (belowC_ok kc2 5).1
          have rO : True := trivial
          refine DX.regs ?_
          refine RegOX.opN 2 (by simp [mapV, pzR, inR, c2e, c3e, rO]; rfl) ?_
          refine RegOX.step rfl (pick_inl [0, 2, 3] 0 27 c2 kc2 oddO (by simp) (by simp) rfl rfl (by decide) (by simp [callArgs, mapV, pzR, inR]) (by decide) (by simp [mapV, pzR, inR]) (by simp [oddO, mapV, pzR, inR]) (by simp)) ?_
          refine RegOX.opN 2 (by simp [mapV, pzR, inR, c2e, c3e, rO]; rfl) ?_
          refine RegOX.nil ?_
          refine DX.norm [(2, _), (3, _)] [(0, _), (2, _), (3, _)] [(0, _)] (by simp [mapV, pzR, inR, c2e, c3e, rO]; exact ⟨rfl, rfl⟩) (by simp [mapV, pzR, inR, c2e, c3e, rO]; exact ⟨rfl, rfl, rfl⟩) (by simp [mapV, pzR, inR, c2e, c3e, rO]; rfl) (by rfl) ?_
          refine DX.seq ?_
          refine DX.reg (by simp [mapV, pzR, inR, c2e, c3e, rO]; rfl) ?_
          refine DX.ret ?_
          refine ⟨_, _, ⟨⟨a.Kind, a.Path, a.To, pickV oddO c2, a.Len, a.Text⟩, c3, rfl, rfl, kc3, by refine ⟨?_, ?_, ?_⟩ <;> (simp only []; first | exact g1 | exact g2 | exact g3 | exact ps | omega)⟩, ?_⟩
          simp [Try.results16, mapV, pzR, inR]
        · skip
          refine DX.seq ?_
          refine DX.reg (by simp (maxSteps := 200000) (disch := first | omega | (simp; done) | fail) [wrapI, leT, leF, ltT, ltF, eqF, nleT, nleF, nltT, nltF, mapV, pzR, inR, c2e]; rfl) ?_
          refine DX.condB (by simp (maxSteps := 200000) (disch := first | omega | (simp; done) | fail) [wrapI, leT, leF, ltT, ltF, eqF, nleT, nleF, nltT, nltF, mapV, pzR, inR, c2e]; exact rfl) (fun hc4 => ?_) (fun hc4 => ?_)
          · obtain ⟨c3, c3e⟩ : ∃ x, belowC c2 2 = x := ⟨_, rfl⟩
            have kc3 : c3.ok := c3e ▸ (belowC_ok kc2 2).1
            have rN : True := trivial
            refine DX.regs ?_
            refine RegOX.opN 2 (by simp [mapV, pzR, inR, c2e, c3e, rN]; rfl) ?_
            refine RegOX.step rfl (pick_inl [0, 2, 3] 0 33 c2 kc2 oddN (by simp) (by simp) rfl rfl (by decide) (by simp [callArgs, mapV, pzR, inR]) (by decide) (by simp [mapV, pzR, inR]) (by simp [oddN, mapV, pzR, inR]) (by simp)) ?_
            refine RegOX.opN 2 (by simp [mapV, pzR, inR, c2e, c3e, rN]; rfl) ?_
            refine RegOX.nil ?_
            refine DX.norm [(2, _), (3, _)] [(0, _), (2, _), (3, _)] [(0, _)] (by simp [mapV, pzR, inR, c2e, c3e, rN]; exact ⟨rfl, rfl⟩) (by simp [mapV, pzR, inR, c2e, c3e, rN]; exact ⟨rfl, rfl, rfl⟩) (by simp [mapV, pzR, inR, c2e, c3e, rN]; rfl) (by rfl) ?_
            refine DX.seq ?_
            refine DX.reg (by simp [mapV, pzR, inR, c2e, c3e, rN]; rfl) ?_
            refine DX.ret ?_
            refine ⟨_, _, ⟨⟨a.Kind, a.Path, a.To, a.Off, pickV oddN c2, a.Text⟩, c3, rfl, rfl, kc3, by refine ⟨?_, ?_, ?_⟩ <;> (simp only []; first | exact g1 | exact g2 | exact g3 | exact ps | omega)⟩, ?_⟩
            simp [Try.results16, mapV, pzR, inR]
          · skip
            refine DX.seq ?_
            refine DX.reg (by simp (maxSteps := 200000) (disch := first | omega | (simp; done) | fail) [wrapI, leT, leF, ltT, ltF, eqF, nleT, nleF, nltT, nltF, mapV, pzR, inR, c2e]; rfl) ?_
            refine DX.condB (by simp (maxSteps := 200000) (disch := first | omega | (simp; done) | fail) [wrapI, leT, leF, ltT, ltF, eqF, nleT, nleF, nltT, nltF, mapV, pzR, inR, c2e]; exact rfl) (fun hc5 => ?_) (fun hc5 => ?_)
            · obtain ⟨c3, c3e⟩ : ∃ x, belowC c2 4 = x := ⟨_, rfl⟩
              have kc3 : c3.ok := c3e ▸ (belowC_ok kc2 4).1
              have rT : True := trivial
              have hbd := oddT_bd _ (pick_mem oddT c2 (by simp))
              obtain ⟨n, hn⟩ := Int.eq_ofNat_of_zero_le hbd.1
              rw [hn] at hbd
              have hbt := reps_size n 97
              refine DX.regs ?_
              refine RegOX.opN 2 (by simp [mapV, pzR, inR, c2e, c3e, rT, hn]; rfl) ?_
              refine RegOX.step rfl (pick_inl [0, 2, 3] 0 39 c2 kc2 oddT (by simp) (by simp) rfl rfl (by decide) (by simp [callArgs, mapV, pzR, inR]) (by decide) (by simp [mapV, pzR, inR]) (by simp [oddT, mapV, pzR, inR]) (by simp)) ?_
              refine RegOX.step rfl (OpStep.callA rfl (by simp [mapV, pzR, inR, c2e, c3e, rT, hn]; exact ⟨rfl, rfl⟩) (by simp [mapV, pzR, inR, c2e, c3e, rT, hn]; rfl) (by exact l01Long_spec n 97 (by omega)) (by simp) (by simp [mapV, pzR, inR, c2e, c3e, rT, hn]; rfl)) ?_
              refine RegOX.opN 2 (by simp [mapV, pzR, inR, c2e, c3e, rT, hn]; rfl) ?_
              refine RegOX.nil ?_
              refine DX.norm [(2, _), (3, _)] [(0, _), (2, _), (3, _)] [(0, _)] (by simp [mapV, pzR, inR, c2e, c3e, rT, hn]; exact ⟨rfl, rfl⟩) (by simp [mapV, pzR, inR, c2e, c3e, rT, hn]; exact ⟨rfl, rfl, rfl⟩) (by simp [mapV, pzR, inR, c2e, c3e, rT, hn]; rfl) (by rfl) ?_
              refine DX.seq ?_
              refine DX.reg (by simp [mapV, pzR, inR, c2e, c3e, rT, hn]; rfl) ?_
              refine DX.ret ?_
              refine ⟨_, _, ⟨⟨a.Kind, a.Path, a.To, a.Off, a.Len, reps n 97⟩, c3, rfl, rfl, kc3, by refine ⟨?_, ?_, ?_⟩ <;> (simp only []; first | exact g1 | exact g2 | exact g3 | exact ps | omega)⟩, ?_⟩
              simp [Try.results16, mapV, pzR, inR]
            · skip
              refine DX.skip ?_
              refine DX.seq ?_
              refine DX.reg (by simp [mapV, pzR, inR, c2e]; rfl) ?_
              refine DX.ret ?_
              refine ⟨_, _, ⟨⟨a.Kind, a.Path, a.To, a.Off, a.Len, a.Text⟩, c2, rfl, rfl, kc2, by refine ⟨?_, ?_, ?_⟩ <;> (simp only []; first | exact g1 | exact g2 | exact g3 | exact ps | omega)⟩, ?_⟩
              simp [Try.results16, mapV, pzR, inR]
end Go.Proofs.Ytciieaidbiejmaa.DM
