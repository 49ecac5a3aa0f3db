import Derived.Test.YtciieaidbiejmaaFQ1
namespace Go.Proofs.Ytciieaidbiejmaa.DM
set_option linter.unusedVariables false
set_option linter.unusedSimpArgs false
set_option maxRecDepth 4000
set_option maxHeartbeats 8000000
def kindL : List Int := [1, 1, 1, 2, 2, 3, 4, 5, 5, 6, 7, 7, 7, 7, 7, 8, 8, 9, 10, 11]
@[simp] theorem kindL_len : kindL.length = 20 := rfl
def offR : List Int := [0, 1, 5, 32, 100, 200]
@[simp] theorem offR_len : offR.length = 6 := rfl
def lenR : List Int := [0, 1, 10, 40, 128, 1000]
@[simp] theorem lenR_len : lenR.length = 6 := rfl
def offW : List Int := [0, 0, 0, 1, 5, 30, 32, 33, 64, 100]
@[simp] theorem offW_len : offW.length = 10 := rfl
def txtW : List Int := [0, 1, 2, 5, 20, 32, 40]
@[simp] theorem txtW_len : txtW.length = 7 := rfl
def lenT : List Int := [0, 1, 5, 31, 32, 33, 64, 70, 128, 129]
@[simp] theorem lenT_len : lenT.length = 10 := rfl
theorem txtW_bd : ∀ x ∈ txtW, 0 ≤ x ∧ x ≤ 40 := by decide
theorem l17Ask_ex (c : Cur) (kc : c.ok) : ∃ dz az, (∃ (a : Ask) (c1 : Cur), dz = Ask.d a ∧ az = [.ptr (curD c1)] ∧ c1.ok ∧ askG a) ∧ Spec Try.prog 31 [.ptr (curD c)] [some 6] dz az := by
  refine Spec.introX Try.func31 rfl rfl Try.ntmps31 rfl (by simp) ?_
  obtain ⟨c1, c1e⟩ : ∃ x, belowC c 20 = x := ⟨_, rfl⟩
  have kc1 : c1.ok := c1e ▸ (belowC_ok kc 20).1
  obtain ⟨kk, hkk⟩ : ∃ x, pickV kindL c = x := ⟨_, rfl⟩
  obtain ⟨dz2, az2, ⟨p, c2, rfl, rfl, kc2, ps⟩, hL2⟩ := l15Path_ex c1 kc1
  obtain ⟨c3, c3e⟩ : ∃ x, belowC c2 12 = x := ⟨_, rfl⟩
  have kc3 : c3.ok := c3e ▸ (belowC_ok kc2 12).1
  refine DX.seq ?_
  refine DX.reg (by simp (maxSteps := 200000) (disch := first | omega | (simp; done) | fail) [wrapI, leT, leF, ltT, ltF, eqF, nleT, nleF, nltT, nltF, mapV, pzR, inR, c1e, c3e, hkk]; rfl) ?_
  refine DX.seq ?_
  refine DX.regs ?_
  refine RegOX.opN 2 (by simp [mapV, pzR, inR, c1e, c3e, hkk]; rfl) ?_
  refine RegOX.step rfl (pick_inl [0, 2] 0 5 c kc kindL (by simp) (by simp) rfl rfl (by decide) (by simp [callArgs, mapV, pzR, inR]) (by decide) (by simp [mapV, pzR, inR]) (by simp [kindL, mapV, pzR, inR]) (by simp)) ?_
  refine RegOX.opN 1 (by simp [mapV, pzR, inR, c1e, c3e, hkk]; rfl) ?_
  refine RegOX.step rfl (OpStep.callP (io := 0) (id := 0) (off := 0) (p := []) (sz := 3) (n := 1) (cs0 := curD c1) rfl (by simp [callArgs, c1e]; rfl) hL2 (by simp) rfl rfl (by simp) rfl (by simp) (by simp) (by simp) (by simp [callArgs, FS.lend, c1e]; rfl) (by simp [rosOk, roA_, toRC, mapO]) (by simp [widen, ownV, ownC]) (by simp [finish, packDV, packD, ptBack]; rfl)) ?_
  refine RegOX.opN 3 (by simp [mapV, pzR, inR, c1e, c3e, hkk]; rfl) ?_
  refine RegOX.nil ?_
  refine DX.norm [(0, _), (2, _), (3, _)] [(0, _), (2, _), (3, _)] [(0, _)] (by simp [mapV, pzR, inR, c1e, c3e, hkk]; exact ⟨rfl, rfl, rfl⟩) (by simp [mapV, pzR, inR, c1e, c3e, hkk]; exact ⟨rfl, rfl, rfl⟩) (by simp [mapV, pzR, inR, c1e, c3e, hkk]; rfl) (by rfl) ?_
  refine DX.seq ?_
  refine DX.seq ?_
  refine DX.regs ?_
  refine RegOX.opN 1 (by simp (maxSteps := 200000) (disch := first | omega | (simp; done) | fail) [wrapI, leT, leF, ltT, ltF, eqF, nleT, nleF, nltT, nltF, mapV, pzR, inR, c1e, c3e, hkk]; rfl) ?_
  refine RegOX.step rfl (OpStep.callP (io := 0) (id := 0) (off := 0) (p := []) (sz := 3) (n := 1) (cs0 := curD c2) rfl (by simp [callArgs]; rfl) (l01Once_spec c2 kc2 12) (by simp) rfl rfl (by simp) rfl (by simp) (by simp) (by simp) (by simp [callArgs, FS.lend]; rfl) (by simp [rosOk, roA_, toRC, mapO]) (by simp [widen, ownV, ownC]) (by simp [finish, packDV, packD, ptBack]; rfl)) ?_
  refine RegOX.nil ?_
  refine DX.norm [(0, _), (2, _), (3, _), (11, _)] [(0, _), (2, _), (3, _)] [(0, _)] (by simp [mapV, pzR, inR, c1e, c3e, hkk]; exact ⟨rfl, rfl, rfl, rfl⟩) (by simp [mapV, pzR, inR, c1e, c3e, hkk]; exact ⟨rfl, rfl, rfl⟩) (by simp [mapV, pzR, inR, c1e, c3e, hkk]; rfl) (by rfl) ?_
  refine DX.condB (by simp (maxSteps := 200000) (disch := first | omega | (simp; done) | fail) [wrapI, leT, leF, ltT, ltF, eqF, nleT, nleF, nltT, nltF, mapV, pzR, inR, c1e, c3e, hkk]; exact rfl) (fun hc0 => ?_) (fun hc0 => ?_)
  · obtain ⟨dz4, az4, ⟨p4, c4, rfl, rfl, kc4, p4s⟩, hL4⟩ := l15Any_ex c3 kc3
    refine DX.regs ?_
    refine RegOX.opN 1 (by simp [mapV, pzR, inR, c1e, c3e, hkk, p4s]; rfl) ?_
    refine RegOX.step rfl (OpStep.callP (io := 0) (id := 0) (off := 0) (p := []) (sz := 3) (n := 1) (cs0 := curD c3) rfl (by simp [callArgs]; rfl) hL4 (by simp) rfl rfl (by simp) rfl (by simp) (by simp) (by simp) (by simp [callArgs, FS.lend]; rfl) (by simp [rosOk, roA_, toRC, mapO]) (by simp [widen, ownV, ownC]) (by simp [finish, packDV, packD, ptBack]; rfl)) ?_
    refine RegOX.opN 2 (by simp [mapV, pzR, inR, c1e, c3e, hkk, p4s]; rfl) ?_
    refine RegOX.nil ?_
    refine DX.norm [(0, _), (2, _), (3, _)] [(0, _), (2, _), (3, _)] [(0, _)] (by simp [mapV, pzR, inR, c1e, c3e, hkk, p4s]; exact ⟨rfl, rfl, rfl⟩) (by simp [mapV, pzR, inR, c1e, c3e, hkk, p4s]; exact ⟨rfl, rfl, rfl⟩) (by simp [mapV, pzR, inR, c1e, c3e, hkk, p4s]; rfl) (by rfl) ?_
    refine DX.seq ?_
    refine DX.seq ?_
    refine DX.reg (by simp (maxSteps := 200000) (disch := first | omega | (simp; done) | fail) [wrapI, leT, leF, ltT, ltF, eqF, nleT, nleF, nltT, nltF, mapV, pzR, inR, c1e, c3e, hkk, p4s]; rfl) ?_
    refine DX.block ?_
    refine DX.seq ?_
    refine DX.reg (by simp (maxSteps := 200000) (disch := first | omega | (simp; done) | fail) [wrapI, leT, leF, ltT, ltF, eqF, nleT, nleF, nltT, nltF, mapV, pzR, inR, c1e, c3e, hkk, p4s]; rfl) ?_
    refine DX.condB (by simp (maxSteps := 200000) (disch := first | omega | (simp; done) | fail) [wrapI, leT, leF, ltT, ltF, eqF, nleT, nleF, nltT, nltF, mapV, pzR, inR, c1e, c3e, hkk, p4s]; exact rfl) (fun hc1 => ?_) (fun hc1 => ?_)
    · obtain ⟨dz5, az5, ⟨p5, c5, rfl, rfl, kc5, p5s⟩, hL5⟩ := l15Path_ex c4 kc4
      have kT5 : True := trivial
      refine DX.regs ?_
      refine RegOX.opN 1 (by simp [mapV, pzR, inR, c1e, c3e, hkk, p4s, kT5]; rfl) ?_
      refine RegOX.step rfl (OpStep.callP (io := 0) (id := 0) (off := 0) (p := []) (sz := 3) (n := 1) (cs0 := curD c4) rfl (by simp [callArgs]; rfl) hL5 (by simp) rfl rfl (by simp) rfl (by simp) (by simp) (by simp) (by simp [callArgs, FS.lend]; rfl) (by simp [rosOk, roA_, toRC, mapO]) (by simp [widen, ownV, ownC]) (by simp [finish, packDV, packD, ptBack]; rfl)) ?_
      refine RegOX.opN 2 (by simp [mapV, pzR, inR, c1e, c3e, hkk, p4s, kT5]; rfl) ?_
      refine RegOX.nil ?_
      refine DX.norm [(2, _), (3, _)] [(0, _), (2, _), (3, _)] [(0, _)] (by simp [mapV, pzR, inR, c1e, c3e, hkk, p4s, kT5]; exact ⟨rfl, rfl⟩) (by simp [mapV, pzR, inR, c1e, c3e, hkk, p4s, kT5]; exact ⟨rfl, rfl, rfl⟩) (by simp [mapV, pzR, inR, c1e, c3e, hkk, p4s, kT5]; rfl) (by rfl) ?_
      refine DX.seq ?_
      refine DX.reg (by simp [mapV, pzR, inR, c1e, c3e, hkk, p4s, kT5]; rfl) ?_
      refine DX.ret ?_
      refine ⟨_, _, ⟨⟨kk, p4, p5, 0, 0, ByteArray.empty⟩, c5, rfl, rfl, kc5, by refine ⟨p4s, ?_, ?_⟩ <;> (simp only []; first | exact p5s | omega | (simp; done))⟩, ?_⟩
      simp [Try.results31, mapV, pzR, inR]
    · skip
      refine DX.seq ?_
      refine DX.reg (by simp (maxSteps := 200000) (disch := first | omega | (simp; done) | fail) [wrapI, leT, leF, ltT, ltF, eqF, nleT, nleF, nltT, nltF, mapV, pzR, inR, c1e, c3e, hkk, p4s]; rfl) ?_
      refine DX.condB (by simp (maxSteps := 200000) (disch := first | omega | (simp; done) | fail) [wrapI, leT, leF, ltT, ltF, eqF, nleT, nleF, nltT, nltF, mapV, pzR, inR, c1e, c3e, hkk, p4s]; exact rfl) (fun hc2 => ?_) (fun hc2 => ?_)
      · obtain ⟨c5, c5e⟩ : ∃ x, belowC c4 6 = x := ⟨_, rfl⟩
        have kc5 : c5.ok := c5e ▸ (belowC_ok kc4 6).1
        obtain ⟨c6, c6e⟩ : ∃ x, belowC c5 6 = x := ⟨_, rfl⟩
        have kc6 : c6.ok := c6e ▸ (belowC_ok kc5 6).1
        refine DX.seq ?_
        refine DX.regs ?_
        refine RegOX.opN 2 (by simp [mapV, pzR, inR, c1e, c3e, hkk, p4s, c5e, c6e]; rfl) ?_
        refine RegOX.step rfl (pick_inl [0, 2, 3] 0 25 c4 kc4 offR (by simp) (by simp) rfl rfl (by decide) (by simp [callArgs, mapV, pzR, inR]) (by decide) (by simp [mapV, pzR, inR]) (by simp [offR, mapV, pzR, inR]) (by simp)) ?_
        refine RegOX.opN 2 (by simp [mapV, pzR, inR, c1e, c3e, hkk, p4s, c5e, c6e]; rfl) ?_
        refine RegOX.nil ?_
        refine DX.norm [(0, _), (2, _), (3, _)] [(0, _), (2, _), (3, _)] [(0, _)] (by simp [mapV, pzR, inR, c1e, c3e, hkk, p4s, c5e, c6e]; exact ⟨rfl, rfl, rfl⟩) (by simp [mapV, pzR, inR, c1e, c3e, hkk, p4s, c5e, c6e]; exact ⟨rfl, rfl, rfl⟩) (by simp [mapV, pzR, inR, c1e, c3e, hkk, p4s, c5e, c6e]; rfl) (by rfl) ?_
        refine DX.regs ?_
        refine RegOX.opN 2 (by simp [mapV, pzR, inR, c1e, c3e, hkk, p4s, c5e, c6e]; rfl) ?_
        refine RegOX.step rfl (pick_inl [0, 2, 3] 0 29 c5 kc5 lenR (by simp) (by simp) rfl rfl (by decide) (by simp [callArgs, mapV, pzR, inR, c5e]) (by decide) (by simp [mapV, pzR, inR, c5e]) (by simp [lenR, mapV, pzR, inR, c5e]) (by simp [c5e])) ?_
        refine RegOX.opN 2 (by simp [mapV, pzR, inR, c1e, c3e, hkk, p4s, c5e, c6e]; rfl) ?_
        refine RegOX.nil ?_
        refine DX.norm [(2, _), (3, _)] [(0, _), (2, _), (3, _)] [(0, _)] (by simp [mapV, pzR, inR, c1e, c3e, hkk, p4s, c5e, c6e]; exact ⟨rfl, rfl⟩) (by simp [mapV, pzR, inR, c1e, c3e, hkk, p4s, c5e, c6e]; exact ⟨rfl, rfl, rfl⟩) (by simp [mapV, pzR, inR, c1e, c3e, hkk, p4s, c5e, c6e]; rfl) (by rfl) ?_
        refine DX.seq ?_
        refine DX.reg (by simp [mapV, pzR, inR, c1e, c3e, hkk, p4s, c5e, c6e]; rfl) ?_
        refine DX.ret ?_
        refine ⟨_, _, ⟨⟨kk, p4, ByteArray.empty, pickV offR c4, pickV lenR c5, ByteArray.empty⟩, c6, rfl, rfl, kc6, by refine ⟨p4s, ?_, ?_⟩ <;> (simp only []; first | exact p5s | omega | (simp; done))⟩, ?_⟩
        simp [Try.results31, mapV, pzR, inR]
      · skip
        refine DX.seq ?_
        refine DX.reg (by simp (maxSteps := 200000) (disch := first | omega | (simp; done) | fail) [wrapI, leT, leF, ltT, ltF, eqF, nleT, nleF, nltT, nltF, mapV, pzR, inR, c1e, c3e, hkk, p4s]; rfl) ?_
        refine DX.condB (by simp (maxSteps := 200000) (disch := first | omega | (simp; done) | fail) [wrapI, leT, leF, ltT, ltF, eqF, nleT, nleF, nltT, nltF, mapV, pzR, inR, c1e, c3e, hkk, p4s]; exact rfl) (fun hc3 => ?_) (fun hc3 => ?_)
        · obtain ⟨c5, c5e⟩ : ∃ x, belowC c4 10 = x := ⟨_, rfl⟩
          have kc5 : c5.ok := c5e ▸ (belowC_ok kc4 10).1
          obtain ⟨c6, c6e⟩ : ∃ x, belowC c5 7 = x := ⟨_, rfl⟩
          have kc6 : c6.ok := c6e ▸ (belowC_ok kc5 7).1
          have hbd := txtW_bd _ (pick_mem txtW c5 (by simp))
          obtain ⟨n, hn⟩ := Int.eq_ofNat_of_zero_le hbd.1
          rw [hn] at hbd
          have hbt := textB_size c6 n
          refine DX.seq ?_
          refine DX.regs ?_
          refine RegOX.opN 2 (by simp [mapV, pzR, inR, c1e, c3e, hkk, p4s, c5e, c6e, hn]; rfl) ?_
          refine RegOX.step rfl (pick_inl [0, 2, 3] 0 35 c4 kc4 offW (by simp) (by simp) rfl rfl (by decide) (by simp [callArgs, mapV, pzR, inR]) (by decide) (by simp [mapV, pzR, inR]) (by simp [offW, mapV, pzR, inR]) (by simp)) ?_
          refine RegOX.opN 2 (by simp [mapV, pzR, inR, c1e, c3e, hkk, p4s, c5e, c6e, hn]; rfl) ?_
          refine RegOX.nil ?_
          refine DX.norm [(0, _), (2, _), (3, _)] [(0, _), (2, _), (3, _)] [(0, _)] (by simp [mapV, pzR, inR, c1e, c3e, hkk, p4s, c5e, c6e, hn]; exact ⟨rfl, rfl, rfl⟩) (by simp [mapV, pzR, inR, c1e, c3e, hkk, p4s, c5e, c6e, hn]; exact ⟨rfl, rfl, rfl⟩) (by simp [mapV, pzR, inR, c1e, c3e, hkk, p4s, c5e, c6e, hn]; rfl) (by rfl) ?_
          refine DX.regs ?_
          refine RegOX.opN 3 (by simp [mapV, pzR, inR, c1e, c3e, hkk, p4s, c5e, c6e, hn]; rfl) ?_
          refine RegOX.step rfl (pick_inl [0, 2, 3, 38] 0 40 c5 kc5 txtW (by simp) (by simp) rfl rfl (by decide) (by simp [callArgs, mapV, pzR, inR, c5e]) (by decide) (by simp [mapV, pzR, inR, c5e]) (by simp [txtW, mapV, pzR, inR, c5e]) (by simp [c5e])) ?_
          refine RegOX.step rfl (OpStep.callP (io := 0) (id := 0) (off := 0) (p := []) (sz := 3) (n := 1) (cs0 := curD c6) rfl (by simp [callArgs, mapV, pzR, inR, hn, c6e]; rfl) (l01Text_spec c6 kc6 n (by omega)) (by simp) rfl rfl (by simp [mapV, pzR, inR, c6e]) rfl (by simp) (by simp) (by simp) (by simp [callArgs, FS.lend, mapV, pzR, inR, hn, c6e]; rfl) (by simp [rosOk, roA_, toRC, mapO, mapV, pzR, inR, hn, c6e]) (by simp [widen, ownV, ownC]) (by simp [finish, packDV, packD, ptBack]; rfl)) ?_
          refine RegOX.opN 2 (by simp [mapV, pzR, inR, c1e, c3e, hkk, p4s, c5e, c6e, hn]; rfl) ?_
          refine RegOX.nil ?_
          refine DX.norm [(2, _), (3, _)] [(0, _), (2, _), (3, _)] [(0, _)] (by simp [mapV, pzR, inR, c1e, c3e, hkk, p4s, c5e, c6e, hn]; exact ⟨rfl, rfl⟩) (by simp [mapV, pzR, inR, c1e, c3e, hkk, p4s, c5e, c6e, hn]; exact ⟨rfl, rfl, rfl⟩) (by simp [mapV, pzR, inR, c1e, c3e, hkk, p4s, c5e, c6e, hn]; rfl) (by rfl) ?_
          refine DX.seq ?_
          refine DX.reg (by simp [mapV, pzR, inR, c1e, c3e, hkk, p4s, c5e, c6e, hn]; rfl) ?_
          refine DX.ret ?_
          refine ⟨_, _, ⟨⟨kk, p4, ByteArray.empty, pickV offW c4, 0, textB c6 n⟩, textC c6 n, rfl, rfl, (textC_ok kc6 n).1, by refine ⟨p4s, ?_, ?_⟩ <;> (simp only []; first | exact p5s | omega | (simp; done))⟩, ?_⟩
          simp [Try.results31, mapV, pzR, inR]
        · skip
          refine DX.seq ?_
          refine DX.reg (by simp (maxSteps := 200000) (disch := first | omega | (simp; done) | fail) [wrapI, leT, leF, ltT, ltF, eqF, nleT, nleF, nltT, nltF, mapV, pzR, inR, c1e, c3e, hkk, p4s]; rfl) ?_
          refine DX.condB (by simp (maxSteps := 200000) (disch := first | omega | (simp; done) | fail) [wrapI, leT, leF, ltT, ltF, eqF, nleT, nleF, nltT, nltF, mapV, pzR, inR, c1e, c3e, hkk, p4s]; exact rfl) (fun hc4 => ?_) (fun hc4 => ?_)
          · obtain ⟨c5, c5e⟩ : ∃ x, belowC c4 10 = x := ⟨_, rfl⟩
            have kc5 : c5.ok := c5e ▸ (belowC_ok kc4 10).1
            refine DX.regs ?_
            refine RegOX.opN 2 (by simp [mapV, pzR, inR, c1e, c3e, hkk, p4s, c5e]; rfl) ?_
            refine RegOX.step rfl (pick_inl [0, 2, 3] 0 47 c4 kc4 lenT (by simp) (by simp) rfl rfl (by decide) (by simp [callArgs, mapV, pzR, inR]) (by decide) (by simp [mapV, pzR, inR]) (by simp [lenT, mapV, pzR, inR]) (by simp)) ?_
            refine RegOX.opN 2 (by simp [mapV, pzR, inR, c1e, c3e, hkk, p4s, c5e]; rfl) ?_
            refine RegOX.nil ?_
            refine DX.norm [(2, _), (3, _)] [(0, _), (2, _), (3, _)] [(0, _)] (by simp [mapV, pzR, inR, c1e, c3e, hkk, p4s, c5e]; exact ⟨rfl, rfl⟩) (by simp [mapV, pzR, inR, c1e, c3e, hkk, p4s, c5e]; exact ⟨rfl, rfl, rfl⟩) (by simp [mapV, pzR, inR, c1e, c3e, hkk, p4s, c5e]; rfl) (by rfl) ?_
            refine DX.seq ?_
            refine DX.reg (by simp [mapV, pzR, inR, c1e, c3e, hkk, p4s, c5e]; rfl) ?_
            refine DX.ret ?_
            refine ⟨_, _, ⟨⟨kk, p4, ByteArray.empty, 0, pickV lenT c4, ByteArray.empty⟩, c5, rfl, rfl, kc5, by refine ⟨p4s, ?_, ?_⟩ <;> (simp only []; first | exact p5s | omega | (simp; done))⟩, ?_⟩
            simp [Try.results31, mapV, pzR, inR]
          · skip
            refine DX.skip ?_
            refine DX.seq ?_
            refine DX.reg (by simp [mapV, pzR, inR, c1e, c3e, hkk, p4s]; rfl) ?_
            refine DX.ret ?_
            refine ⟨_, _, ⟨⟨kk, p4, ByteArray.empty, 0, 0, ByteArray.empty⟩, c4, rfl, rfl, kc4, by refine ⟨p4s, ?_, ?_⟩ <;> (simp only []; first | exact p5s | omega | (simp; done))⟩, ?_⟩
            simp [Try.results31, mapV, pzR, inR]
  · have kc4 := kc3
    have p4s := ps
    obtain ⟨c4, rfl⟩ : ∃ x, x = c3 := ⟨_, rfl⟩
    obtain ⟨p4, rfl⟩ : ∃ x, x = p := ⟨_, rfl⟩
    refine DX.skip ?_
    refine DX.seq ?_
    refine DX.seq ?_
    refine DX.reg (by simp (maxSteps := 200000) (disch := first | omega | (simp; done) | fail) [wrapI, leT, leF, ltT, ltF, eqF, nleT, nleF, nltT, nltF, mapV, pzR, inR, c1e, c3e, hkk]; rfl) ?_
    refine DX.block ?_
    refine DX.seq ?_
    refine DX.reg (by simp (maxSteps := 200000) (disch := first | omega | (simp; done) | fail) [wrapI, leT, leF, ltT, ltF, eqF, nleT, nleF, nltT, nltF, mapV, pzR, inR, c1e, c3e, hkk]; rfl) ?_
    refine DX.condB (by simp (maxSteps := 200000) (disch := first | omega | (simp; done) | fail) [wrapI, leT, leF, ltT, ltF, eqF, nleT, nleF, nltT, nltF, mapV, pzR, inR, c1e, c3e, hkk]; exact rfl) (fun hc5 => ?_) (fun hc5 => ?_)
    · obtain ⟨dz5, az5, ⟨p5, c5, rfl, rfl, kc5, p5s⟩, hL5⟩ := l15Path_ex c4 kc4
      have kT5 : True := trivial
      refine DX.regs ?_
      refine RegOX.opN 1 (by simp [mapV, pzR, inR, c1e, c3e, hkk, kT5]; rfl) ?_
      refine RegOX.step rfl (OpStep.callP (io := 0) (id := 0) (off := 0) (p := []) (sz := 3) (n := 1) (cs0 := curD c4) rfl (by simp [callArgs]; rfl) hL5 (by simp) rfl rfl (by simp) rfl (by simp) (by simp) (by simp) (by simp [callArgs, FS.lend]; rfl) (by simp [rosOk, roA_, toRC, mapO]) (by simp [widen, ownV, ownC]) (by simp [finish, packDV, packD, ptBack]; rfl)) ?_
      refine RegOX.opN 2 (by simp [mapV, pzR, inR, c1e, c3e, hkk, kT5]; rfl) ?_
      refine RegOX.nil ?_
      refine DX.norm [(2, _), (3, _)] [(0, _), (2, _), (3, _)] [(0, _)] (by simp [mapV, pzR, inR, c1e, c3e, hkk, kT5]; exact ⟨rfl, rfl⟩) (by simp [mapV, pzR, inR, c1e, c3e, hkk, kT5]; exact ⟨rfl, rfl, rfl⟩) (by simp [mapV, pzR, inR, c1e, c3e, hkk, kT5]; rfl) (by rfl) ?_
      refine DX.seq ?_
      refine DX.reg (by simp [mapV, pzR, inR, c1e, c3e, hkk, kT5]; rfl) ?_
      refine DX.ret ?_
      refine ⟨_, _, ⟨⟨kk, p4, p5, 0, 0, ByteArray.empty⟩, c5, rfl, rfl, kc5, by refine ⟨p4s, ?_, ?_⟩ <;> (simp only []; first | exact p5s | omega | (simp; done))⟩, ?_⟩
      simp [Try.results31, mapV, pzR, inR]
    · skip
      refine DX.seq ?_
      refine DX.reg (by simp (maxSteps := 200000) (disch := first | omega | (simp; done) | fail) [wrapI, leT, leF, ltT, ltF, eqF, nleT, nleF, nltT, nltF, mapV, pzR, inR, c1e, c3e, hkk]; rfl) ?_
      refine DX.condB (by simp (maxSteps := 200000) (disch := first | omega | (simp; done) | fail) [wrapI, leT, leF, ltT, ltF, eqF, nleT, nleF, nltT, nltF, mapV, pzR, inR, c1e, c3e, hkk]; exact rfl) (fun hc6 => ?_) (fun hc6 => ?_)
      · obtain ⟨c5, c5e⟩ : ∃ x, belowC c4 6 = x := ⟨_, rfl⟩
        have kc5 : c5.ok := c5e ▸ (belowC_ok kc4 6).1
        obtain ⟨c6, c6e⟩ : ∃ x, belowC c5 6 = x := ⟨_, rfl⟩
        have kc6 : c6.ok := c6e ▸ (belowC_ok kc5 6).1
        refine DX.seq ?_
        refine DX.regs ?_
        refine RegOX.opN 2 (by simp [mapV, pzR, inR, c1e, c3e, hkk, c5e, c6e]; rfl) ?_
        refine RegOX.step rfl (pick_inl [0, 2, 3] 0 25 c4 kc4 offR (by simp) (by simp) rfl rfl (by decide) (by simp [callArgs, mapV, pzR, inR]) (by decide) (by simp [mapV, pzR, inR]) (by simp [offR, mapV, pzR, inR]) (by simp)) ?_
        refine RegOX.opN 2 (by simp [mapV, pzR, inR, c1e, c3e, hkk, c5e, c6e]; rfl) ?_
        refine RegOX.nil ?_
        refine DX.norm [(0, _), (2, _), (3, _)] [(0, _), (2, _), (3, _)] [(0, _)] (by simp [mapV, pzR, inR, c1e, c3e, hkk, c5e, c6e]; exact ⟨rfl, rfl, rfl⟩) (by simp [mapV, pzR, inR, c1e, c3e, hkk, c5e, c6e]; exact ⟨rfl, rfl, rfl⟩) (by simp [mapV, pzR, inR, c1e, c3e, hkk, c5e, c6e]; rfl) (by rfl) ?_
        refine DX.regs ?_
        refine RegOX.opN 2 (by simp [mapV, pzR, inR, c1e, c3e, hkk, c5e, c6e]; rfl) ?_
        refine RegOX.step rfl (pick_inl [0, 2, 3] 0 29 c5 kc5 lenR (by simp) (by simp) rfl rfl (by decide) (by simp [callArgs, mapV, pzR, inR, c5e]) (by decide) (by simp [mapV, pzR, inR, c5e]) (by simp [lenR, mapV, pzR, inR, c5e]) (by simp [c5e])) ?_
        refine RegOX.opN 2 (by simp [mapV, pzR, inR, c1e, c3e, hkk, c5e, c6e]; rfl) ?_
        refine RegOX.nil ?_
        refine DX.norm [(2, _), (3, _)] [(0, _), (2, _), (3, _)] [(0, _)] (by simp [mapV, pzR, inR, c1e, c3e, hkk, c5e, c6e]; exact ⟨rfl, rfl⟩) (by simp [mapV, pzR, inR, c1e, c3e, hkk, c5e, c6e]; exact ⟨rfl, rfl, rfl⟩) (by simp [mapV, pzR, inR, c1e, c3e, hkk, c5e, c6e]; rfl) (by rfl) ?_
        refine DX.seq ?_
        refine DX.reg (by simp [mapV, pzR, inR, c1e, c3e, hkk, c5e, c6e]; rfl) ?_
        refine DX.ret ?_
        refine ⟨_, _, ⟨⟨kk, p4, ByteArray.empty, pickV offR c4, pickV lenR c5, ByteArray.empty⟩, c6, rfl, rfl, kc6, by refine ⟨p4s, ?_, ?_⟩ <;> (simp only []; first | exact p5s | omega | (simp; done))⟩, ?_⟩
        simp [Try.results31, mapV, pzR, inR]
      · skip
        refine DX.seq ?_
        refine DX.reg (by simp (maxSteps := 200000) (disch := first | omega | (simp; done) | fail) [wrapI, leT, leF, ltT, ltF, eqF, nleT, nleF, nltT, nltF, mapV, pzR, inR, c1e, c3e, hkk]; rfl) ?_
        refine DX.condB (by simp (maxSteps := 200000) (disch := first | omega | (simp; done) | fail) [wrapI, leT, leF, ltT, ltF, eqF, nleT, nleF, nltT, nltF, mapV, pzR, inR, c1e, c3e, hkk]; exact rfl) (fun hc7 => ?_) (fun hc7 => ?_)
        · obtain ⟨c5, c5e⟩ : ∃ x, belowC c4 10 = x := ⟨_, rfl⟩
          have kc5 : c5.ok := c5e ▸ (belowC_ok kc4 10).1
          obtain ⟨c6, c6e⟩ : ∃ x, belowC c5 7 = x := ⟨_, rfl⟩
          have kc6 : c6.ok := c6e ▸ (belowC_ok kc5 7).1
          have hbd := txtW_bd _ (pick_mem txtW c5 (by simp))
          obtain ⟨n, hn⟩ := Int.eq_ofNat_of_zero_le hbd.1
          rw [hn] at hbd
          have hbt := textB_size c6 n
          refine DX.seq ?_
          refine DX.regs ?_
          refine RegOX.opN 2 (by simp [mapV, pzR, inR, c1e, c3e, hkk, c5e, c6e, hn]; rfl) ?_
          refine RegOX.step rfl (pick_inl [0, 2, 3] 0 35 c4 kc4 offW (by simp) (by simp) rfl rfl (by decide) (by simp [callArgs, mapV, pzR, inR]) (by decide) (by simp [mapV, pzR, inR]) (by simp [offW, mapV, pzR, inR]) (by simp)) ?_
          refine RegOX.opN 2 (by simp [mapV, pzR, inR, c1e, c3e, hkk, c5e, c6e, hn]; rfl) ?_
          refine RegOX.nil ?_
          refine DX.norm [(0, _), (2, _), (3, _)] [(0, _), (2, _), (3, _)] [(0, _)] (by simp [mapV, pzR, inR, c1e, c3e, hkk, c5e, c6e, hn]; exact ⟨rfl, rfl, rfl⟩) (by simp [mapV, pzR, inR, c1e, c3e, hkk, c5e, c6e, hn]; exact ⟨rfl, rfl, rfl⟩) (by simp [mapV, pzR, inR, c1e, c3e, hkk, c5e, c6e, hn]; rfl) (by rfl) ?_
          refine DX.regs ?_
          refine RegOX.opN 3 (by simp [mapV, pzR, inR, c1e, c3e, hkk, c5e, c6e, hn]; rfl) ?_
          refine RegOX.step rfl (pick_inl [0, 2, 3, 38] 0 40 c5 kc5 txtW (by simp) (by simp) rfl rfl (by decide) (by simp [callArgs, mapV, pzR, inR, c5e]) (by decide) (by simp [mapV, pzR, inR, c5e]) (by simp [txtW, mapV, pzR, inR, c5e]) (by simp [c5e])) ?_
          refine RegOX.step rfl (OpStep.callP (io := 0) (id := 0) (off := 0) (p := []) (sz := 3) (n := 1) (cs0 := curD c6) rfl (by simp [callArgs, mapV, pzR, inR, hn, c6e]; rfl) (l01Text_spec c6 kc6 n (by omega)) (by simp) rfl rfl (by simp [mapV, pzR, inR, c6e]) rfl (by simp) (by simp) (by simp) (by simp [callArgs, FS.lend, mapV, pzR, inR, hn, c6e]; rfl) (by simp [rosOk, roA_, toRC, mapO, mapV, pzR, inR, hn, c6e]) (by simp [widen, ownV, ownC]) (by simp [finish, packDV, packD, ptBack]; rfl)) ?_
          refine RegOX.opN 2 (by simp [mapV, pzR, inR, c1e, c3e, hkk, c5e, c6e, hn]; rfl) ?_
          refine RegOX.nil ?_
          refine DX.norm [(2, _), (3, _)] [(0, _), (2, _), (3, _)] [(0, _)] (by simp [mapV, pzR, inR, c1e, c3e, hkk, c5e, c6e, hn]; exact ⟨rfl, rfl⟩) (by simp [mapV, pzR, inR, c1e, c3e, hkk, c5e, c6e, hn]; exact ⟨rfl, rfl, rfl⟩) (by simp [mapV, pzR, inR, c1e, c3e, hkk, c5e, c6e, hn]; rfl) (by rfl) ?_
          refine DX.seq ?_
          refine DX.reg (by simp [mapV, pzR, inR, c1e, c3e, hkk, c5e, c6e, hn]; rfl) ?_
          refine DX.ret ?_
          refine ⟨_, _, ⟨⟨kk, p4, ByteArray.empty, pickV offW c4, 0, textB c6 n⟩, textC c6 n, rfl, rfl, (textC_ok kc6 n).1, by refine ⟨p4s, ?_, ?_⟩ <;> (simp only []; first | exact p5s | omega | (simp; done))⟩, ?_⟩
          simp [Try.results31, mapV, pzR, inR]
        · skip
          refine DX.seq ?_
          refine DX.reg (by simp (maxSteps := 200000) (disch := first | omega | (simp; done) | fail) [wrapI, leT, leF, ltT, ltF, eqF, nleT, nleF, nltT, nltF, mapV, pzR, inR, c1e, c3e, hkk]; rfl) ?_
          refine DX.condB (by simp (maxSteps := 200000) (disch := first | omega | (simp; done) | fail) [wrapI, leT, leF, ltT, ltF, eqF, nleT, nleF, nltT, nltF, mapV, pzR, inR, c1e, c3e, hkk]; exact rfl) (fun hc8 => ?_) (fun hc8 => ?_)
          · obtain ⟨c5, c5e⟩ : ∃ x, belowC c4 10 = x := ⟨_, rfl⟩
            have kc5 : c5.ok := c5e ▸ (belowC_ok kc4 10).1
            refine DX.regs ?_
            refine RegOX.opN 2 (by simp [mapV, pzR, inR, c1e, c3e, hkk, c5e]; rfl) ?_
            refine RegOX.step rfl (pick_inl [0, 2, 3] 0 47 c4 kc4 lenT (by simp) (by simp) rfl rfl (by decide) (by simp [callArgs, mapV, pzR, inR]) (by decide) (by simp [mapV, pzR, inR]) (by simp [lenT, mapV, pzR, inR]) (by simp)) ?_
            refine RegOX.opN 2 (by simp [mapV, pzR, inR, c1e, c3e, hkk, c5e]; rfl) ?_
            refine RegOX.nil ?_
            refine DX.norm [(2, _), (3, _)] [(0, _), (2, _), (3, _)] [(0, _)] (by simp [mapV, pzR, inR, c1e, c3e, hkk, c5e]; exact ⟨rfl, rfl⟩) (by simp [mapV, pzR, inR, c1e, c3e, hkk, c5e]; exact ⟨rfl, rfl, rfl⟩) (by simp [mapV, pzR, inR, c1e, c3e, hkk, c5e]; rfl) (by rfl) ?_
            refine DX.seq ?_
            refine DX.reg (by simp [mapV, pzR, inR, c1e, c3e, hkk, c5e]; rfl) ?_
            refine DX.ret ?_
            refine ⟨_, _, ⟨⟨kk, p4, ByteArray.empty, 0, pickV lenT c4, ByteArray.empty⟩, c5, rfl, rfl, kc5, by refine ⟨p4s, ?_, ?_⟩ <;> (simp only []; first | exact p5s | omega | (simp; done))⟩, ?_⟩
            simp [Try.results31, mapV, pzR, inR]
          · skip
            refine DX.skip ?_
            refine DX.seq ?_
            refine DX.reg (by simp [mapV, pzR, inR, c1e, c3e, hkk]; rfl) ?_
            refine DX.ret ?_
            refine ⟨_, _, ⟨⟨kk, p4, ByteArray.empty, 0, 0, ByteArray.empty⟩, c4, rfl, rfl, kc4, by refine ⟨p4s, ?_, ?_⟩ <;> (simp only []; first | exact p5s | omega | (simp; done))⟩, ?_⟩
            simp [Try.results31, mapV, pzR, inR]
end Go.Proofs.Ytciieaidbiejmaa.DM
