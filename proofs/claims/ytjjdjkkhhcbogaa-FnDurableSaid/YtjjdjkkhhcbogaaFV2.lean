import Derived.Test.YtjjdjkkhhcbogaaFV1
namespace Go.Proofs.Ytjjdjkkhhcbogaa.DM
set_option linter.unusedVariables false
set_option linter.unusedSimpArgs false
set_option maxRecDepth 4000
set_option maxHeartbeats 8000000
theorem l20Any_ex (c : Cur) (hc : c.ok) : ∃ ds az, (∃ (l : List Write) (c1 : Cur), ds = [dr l] ∧ az = [.ptr (curD c1)] ∧ c1.ok ∧ l.length ≤ 17 ∧ ∀ w ∈ l, okW w) ∧ Spec Try.prog 96 [.ptr (curD c)] [none] ds az := by
  refine Spec.introX Try.func96 rfl rfl Try.ntmps96 rfl (by simp) ?_
  obtain ⟨ds0, az0, ⟨l, c1, rfl, rfl, kc1, hl6, hall⟩, hL⟩ := l20List_ex c hc
  obtain ⟨c2, hc2e⟩ : ∃ c2, belowC c1 8 = c2 := ⟨_, rfl⟩
  have kc2 : c2.ok := hc2e ▸ (belowC_ok kc1 8).1
  have hT := rD_take_Write l
  have hTl := rD_len_Write l
  have hbb2 : (l.length + 1) * 24 ≤ 140737488355328 := by omega
  have hbb3 : l.length + 1 ≤ 140737488355328 := by omega
  refine DX.seq ?_
  refine DX.reg (by simp (maxSteps := 200000) (disch := first | omega | (simp; done) | fail) [wrapI, leT, leF, ltT, ltF, eqF, nleT, nleF, nltT, nltF, mapV, pzR, inR, hc2e, hT, hTl, hbb2, hbb3]; rfl) ?_
  refine DX.seq ?_
  refine DX.regs ?_
  refine RegOX.opN 1 (by simp (maxSteps := 200000) (disch := first | omega | (simp; done) | fail) [wrapI, leT, leF, ltT, ltF, eqF, nleT, nleF, nltT, nltF, mapV, pzR, inR, hc2e, hT, hTl, hbb2, hbb3]; rfl) ?_
  refine RegOX.step rfl (OpStep.callP (io := 0) (id := 0) (off := 0) (p := []) (sz := 3) (n := 1) (cs0 := curD c) rfl (by simp [callArgs]; rfl) hL (by simp) rfl rfl (by simp) rfl (by simp) (by simp) (by simp) (by simp [callArgs, FS.lend]; rfl) (by simp [rosOk, roA_, toRC, mapO]) (by simp [widen, ownV, ownC]) (by simp [finish, packDV, packD, ptBack]; rfl)) ?_
  refine RegOX.opN 1 (by simp (maxSteps := 200000) (disch := first | omega | (simp; done) | fail) [wrapI, leT, leF, ltT, ltF, eqF, nleT, nleF, nltT, nltF, mapV, pzR, inR, hc2e, hT, hTl, hbb2, hbb3]; rfl) ?_
  refine RegOX.nil ?_
  refine DX.norm [(0, _), (3, _)] [(0, _), (5, _)] [(0, _)] (by simp [mapV, pzR, inR, hc2e, hT, hTl, hbb2, hbb3]; exact ⟨rfl, rfl⟩) (by simp [mapV, pzR, inR, hc2e, hT, hTl, hbb2, hbb3]; exact ⟨rfl, rfl⟩) (by simp [mapV, pzR, inR, hc2e, hT, hTl, hbb2, hbb3]; rfl) (by rfl) ?_
  refine DX.seq ?_
  refine DX.seq ?_
  refine DX.regs ?_
  refine RegOX.opN 1 (by simp (maxSteps := 200000) (disch := first | omega | (simp; done) | fail) [wrapI, leT, leF, ltT, ltF, eqF, nleT, nleF, nltT, nltF, mapV, pzR, inR, hc2e, hT, hTl, hbb2, hbb3]; rfl) ?_
  refine RegOX.step rfl (OpStep.callP (io := 0) (id := 0) (off := 0) (p := []) (sz := 3) (n := 1) (cs0 := curD c1) rfl (by simp [callArgs]; rfl) (l01Below_spec c1 kc1 8) (by simp) rfl rfl (by simp) rfl (by simp) (by simp) (by simp) (by simp [callArgs, FS.lend]; rfl) (by simp [rosOk, roA_, toRC, mapO]) (by simp [widen, ownV, ownC]) (by simp [finish, packDV, packD, ptBack]; rfl)) ?_
  refine RegOX.nil ?_
  refine DX.norm [(0, _), (3, _), (7, _)] [(0, _), (5, _)] [(0, _)] (by simp [mapV, pzR, inR, hc2e, hT, hTl, hbb2, hbb3]; exact ⟨rfl, rfl, rfl⟩) (by simp [mapV, pzR, inR, hc2e, hT, hTl, hbb2, hbb3]; exact ⟨rfl, rfl⟩) (by simp [mapV, pzR, inR, hc2e, hT, hTl, hbb2, hbb3]; rfl) (by rfl) ?_
  refine DX.block ?_
  refine DX.seq ?_
  refine DX.reg (by simp (maxSteps := 200000) (disch := first | omega | (simp; done) | fail) [wrapI, leT, leF, ltT, ltF, eqF, nleT, nleF, nltT, nltF, mapV, pzR, inR, hc2e, hT, hTl, hbb2, hbb3]; rfl) ?_
  refine DX.condB (by simp (maxSteps := 200000) (disch := first | omega | (simp; done) | fail) [wrapI, leT, leF, ltT, ltF, eqF, nleT, nleF, nltT, nltF, mapV, pzR, inR, hc2e, hT, hTl, hbb2, hbb3]; exact rfl) (fun hc0 => ?_) (fun hc0 => ?_)
  · obtain ⟨c3, hc3e⟩ : ∃ c3, belowC c2 3 = c3 := ⟨_, rfl⟩
    have kc3 : c3.ok := hc3e ▸ (belowC_ok kc2 3).1
    have hb0 : True := trivial
    have hpm := pick_mem [-1, 4294967296, 5] c2 (by simp)
    simp only [List.mem_cons, List.not_mem_nil, or_false] at hpm
    obtain ⟨pv, hpv⟩ : ∃ pv, pickV [-1, 4294967296, 5] c2 = pv := ⟨_, rfl⟩
    rw [hpv] at hpm
    have hall2 : ∀ w ∈ l ++ [⟨pv, textB c3 8⟩], okW w := by
      intro w hw
      rcases List.mem_append.1 hw with hw | hw
      · exact hall w hw
      · rw [List.mem_singleton.1 hw]; refine ⟨by simp only; omega, by simp only; omega, ?_⟩; simp
    have hRd : rD [(⟨pv, textB c3 8⟩ : Write)] = [T.sc (.int .i64 (pv)), T.sc (.string (textB c3 8))] := rfl
    have hTn := hRd
    refine DX.regs ?_
    refine RegOX.opN 3 (by simp [mapV, pzR, inR, hc2e, hT, hTl, hbb2, hbb3, hb0, hc3e, hRd, hpv]; rfl) ?_
    refine RegOX.step rfl (pick_inl [0, 10] 0 12 c2 kc2 [-1, 4294967296, 5] (by simp) (by simp) rfl rfl (by decide) (by simp [callArgs, mapV, pzR, inR]) (by decide) (by simp [mapV, pzR, inR]) (by simp [mapV, pzR, inR]) (by simp)) ?_
    refine RegOX.opN 1 (by simp [mapV, pzR, inR, hc2e, hT, hTl, hbb2, hbb3, hb0, hc3e, hRd, hpv]; rfl) ?_
    refine RegOX.step rfl (OpStep.callP (io := 0) (id := 0) (off := 0) (p := []) (sz := 3) (n := 1) (cs0 := curD c3) rfl (by simp [callArgs]; rfl) (l01Text_spec c3 kc3 8 (by omega)) (by simp) rfl rfl (by simp) rfl (by simp) (by simp) (by simp) (by simp [callArgs, FS.lend]; rfl) (by simp [rosOk, roA_, toRC, mapO]) (by simp [widen, ownV, ownC]) (by simp [finish, packDV, packD, ptBack]; rfl)) ?_
    refine RegOX.opN 4 (by simp [mapV, pzR, inR, hc2e, hT, hTl, hbb2, hbb3, hb0, hc3e, hRd, hpv]; rfl) ?_
    refine RegOX.nil ?_
    refine DX.norm [(3, _)] [(0, _), (18, _)] [(0, _)] (by simp [mapV, pzR, inR, hc2e, hT, hTl, hbb2, hbb3, hb0, hc3e, hRd, hpv]; rfl) (by simp [mapV, pzR, inR, hc2e, hT, hTl, hbb2, hbb3, hb0, hc3e, hRd, hpv]; exact ⟨rfl, rfl⟩) (by simp [mapV, pzR, inR, hc2e, hT, hTl, hbb2, hbb3, hb0, hc3e, hRd, hpv]; rfl) (by rfl) ?_
    refine DX.seq ?_
    refine DX.reg (by simp (maxSteps := 200000) (disch := first | omega | (simp; done) | fail) [wrapI, leT, leF, ltT, ltF, eqF, nleT, nleF, nltT, nltF, mapV, pzR, inR, hc2e, hT, hTl, hbb2, hbb3, hb0, hc3e, hRd]; rfl) ?_
    refine DX.ret ?_
    have hb4 : (l.length + 1) * 2 ≤ l.length * 2 + 2 := by omega
    have hTs := rD_take_Write (l ++ [⟨pv, textB c3 8⟩])
    simp only [rD_append, hRd, List.length_append, List.length_singleton] at hTs
    refine ⟨_, _, ⟨l ++ [⟨pv, textB c3 8⟩], textC c3 8, rfl, rfl, (textC_ok kc3 8).1, by simp; omega, hall2⟩, ?_⟩
    simp [Try.results96, mapV, pzR, inR, rD_append, hRd, hT, hTl, hTs, hb4]
  · skip
    refine DX.seq ?_
    refine DX.reg (by simp (maxSteps := 200000) (disch := first | omega | (simp; done) | fail) [wrapI, leT, leF, ltT, ltF, eqF, nleT, nleF, nltT, nltF, mapV, pzR, inR, hc2e, hT, hTl, hbb2, hbb3]; rfl) ?_
    refine DX.condB (by simp (maxSteps := 200000) (disch := first | omega | (simp; done) | fail) [wrapI, leT, leF, ltT, ltF, eqF, nleT, nleF, nltT, nltF, mapV, pzR, inR, hc2e, hT, hTl, hbb2, hbb3]; exact rfl) (fun hc1 => ?_) (fun hc1 => ?_)
    · have hb1 : True := trivial
      have hall2 : ∀ w ∈ l ++ [⟨0, textB c2 7⟩], okW w := by
        intro w hw
        rcases List.mem_append.1 hw with hw | hw
        · exact hall w hw
        · rw [List.mem_singleton.1 hw]; refine ⟨by simp only; omega, by simp only; omega, ?_⟩; simp
      have hRd : rD [(⟨0, textB c2 7⟩ : Write)] = [T.sc (.int .i64 (0)), T.sc (.string (textB c2 7))] := rfl
      have hTn := hRd
      refine DX.regs ?_
      refine RegOX.opN 2 (by simp [mapV, pzR, inR, hc2e, hT, hTl, hbb2, hbb3, hb1, hRd]; rfl) ?_
      refine RegOX.step rfl (OpStep.callP (io := 0) (id := 0) (off := 0) (p := []) (sz := 3) (n := 1) (cs0 := curD c2) rfl (by simp [callArgs]; rfl) (l01Text_spec c2 kc2 7 (by omega)) (by simp) rfl rfl (by simp) rfl (by simp) (by simp) (by simp) (by simp [callArgs, FS.lend]; rfl) (by simp [rosOk, roA_, toRC, mapO]) (by simp [widen, ownV, ownC]) (by simp [finish, packDV, packD, ptBack]; rfl)) ?_
      refine RegOX.opN 4 (by simp [mapV, pzR, inR, hc2e, hT, hTl, hbb2, hbb3, hb1, hRd]; rfl) ?_
      refine RegOX.nil ?_
      refine DX.norm [(3, _)] [(0, _), (26, _)] [(0, _)] (by simp [mapV, pzR, inR, hc2e, hT, hTl, hbb2, hbb3, hb1, hRd]; rfl) (by simp [mapV, pzR, inR, hc2e, hT, hTl, hbb2, hbb3, hb1, hRd]; exact ⟨rfl, rfl⟩) (by simp [mapV, pzR, inR, hc2e, hT, hTl, hbb2, hbb3, hb1, hRd]; rfl) (by rfl) ?_
      refine DX.seq ?_
      refine DX.reg (by simp (maxSteps := 200000) (disch := first | omega | (simp; done) | fail) [wrapI, leT, leF, ltT, ltF, eqF, nleT, nleF, nltT, nltF, mapV, pzR, inR, hc2e, hT, hTl, hbb2, hbb3, hb1, hRd]; rfl) ?_
      refine DX.ret ?_
      have hb4 : (l.length + 1) * 2 ≤ l.length * 2 + 2 := by omega
      have hTs := rD_take_Write (l ++ [⟨0, textB c2 7⟩])
      simp only [rD_append, hRd, List.length_append, List.length_singleton] at hTs
      refine ⟨_, _, ⟨l ++ [⟨0, textB c2 7⟩], textC c2 7, rfl, rfl, (textC_ok kc2 7).1, by simp; omega, hall2⟩, ?_⟩
      simp [Try.results96, mapV, pzR, inR, rD_append, hRd, hT, hTl, hTs, hb4]
    · skip
      refine DX.seq ?_
      refine DX.reg (by simp (maxSteps := 200000) (disch := first | omega | (simp; done) | fail) [wrapI, leT, leF, ltT, ltF, eqF, nleT, nleF, nltT, nltF, mapV, pzR, inR, hc2e, hT, hTl, hbb2, hbb3]; rfl) ?_
      refine DX.ghost (Ghost.move (id := 5) (id' := 42) (p := [0]) (by simp [mapV, pzR, inR]; rfl) (by simp [mapV, pzR, inR]; first | exact ⟨rfl, rfl, rfl⟩ | rfl) (by simp [mapV, pzR, inR])) ?_
      refine DX.condB (by simp (maxSteps := 200000) (disch := first | omega | (simp; done) | fail) [wrapI, leT, leF, ltT, ltF, eqF, nleT, nleF, nltT, nltF, mapV, pzR, inR, hc2e, hT, hTl, hbb2, hbb3]; exact rfl) (fun hc2 => ?_) (fun hc2 => ?_)
      · have hb2 : True := trivial
        refine DX.block ?_
        refine DX.loopS (α := List Write × Cur) (fun a => a.2.ok ∧ a.1.length ≤ 17 ∧ ∀ w ∈ a.1, okW w) (fun a => 17 - a.1.length) (fun a => [(3, .v (.one (.sl 42 [] 0 a.1.length)))]) (fun a => [(42, .ow () 2 a.1.length (rD a.1)), (0, .ow () 3 1 (curD a.2))]) [(0, _)] [] [(0, .pt 0 [] 0)] (l, c2) (⟨kc2, by simp only; omega, hall⟩) (by simp; exact rfl) (by simp [mapV, pzR, inR]) (by simp) (by rfl) ?_
        rintro ⟨l1, d⟩ ⟨hd, hl17, hall1⟩
        simp only at hd hl17 hall1 ⊢
        have hdd := (belowC_ok hd 3).1
        obtain ⟨d1, hd1e⟩ : ∃ d1, belowC d 3 = d1 := ⟨_, rfl⟩
        have hd1 : d1.ok := hd1e ▸ hdd
        have hTn := rD_take_Write l1
        have hTl := rD_len_Write l1
        have hbb2 : (l1.length + 1) * 24 ≤ 140737488355328 := by omega
        have hbb3 : l1.length + 1 ≤ 140737488355328 := by omega
        have hbv := belowV_bd d 3
        have hbv2 := hbv.2 (by omega)
        have hwv := wr (15 + belowV d 3) (by omega) (by omega)
        refine DX.seq ?_
        refine DX.seq ?_
        refine DX.regs ?_
        refine RegOX.opN 3 (by simp (maxSteps := 200000) (disch := first | omega | (simp; done) | fail) [wrapI, leT, leF, ltT, ltF, eqF, nleT, nleF, nltT, nltF, mapV, pzR, inR, hc2e, hT, hTl, hbb2, hbb3, hb2, hTn, hwv, hd1e]; rfl) ?_
        refine RegOX.step rfl (OpStep.callP (io := 0) (id := 0) (off := 0) (p := []) (sz := 3) (n := 1) (cs0 := curD d) rfl (by simp [callArgs]; rfl) (l01Below_spec d hd 3) (by simp) rfl rfl (by simp) rfl (by simp) (by simp) (by simp) (by simp [callArgs, FS.lend]; rfl) (by simp [rosOk, roA_, toRC, mapO]) (by simp [widen, ownV, ownC]) (by simp [finish, packDV, packD, ptBack]; rfl)) ?_
        refine RegOX.opN 2 (by simp (maxSteps := 200000) (disch := first | omega | (simp; done) | fail) [wrapI, leT, leF, ltT, ltF, eqF, nleT, nleF, nltT, nltF, mapV, pzR, inR, hc2e, hT, hTl, hbb2, hbb3, hb2, hTn, hwv, hd1e]; rfl) ?_
        refine RegOX.nil ?_
        refine DX.norm [(0, _), (3, _), (34, _)] [(0, _), (42, _)] [(0, _)] (by simp [mapV, pzR, inR, hc2e, hT, hTl, hbb2, hbb3, hb2, hTn, hwv, hd1e]; exact ⟨rfl, rfl, rfl⟩) (by simp [mapV, pzR, inR, hc2e, hT, hTl, hbb2, hbb3, hb2, hTn, hwv, hd1e]; exact ⟨rfl, rfl⟩) (by simp [mapV, pzR, inR, hc2e, hT, hTl, hbb2, hbb3, hb2, hTn, hwv, hd1e]; rfl) (by rfl) ?_
        refine DX.condB (by simp (maxSteps := 200000) (disch := first | omega | (simp; done) | fail) [wrapI, leT, leF, ltT, ltF, eqF, nleT, nleF, nltT, nltF, mapV, pzR, inR, hc2e, hT, hTl, hbb2, hbb3, hb2, hTn, hwv, hd1e]; exact rfl) (fun hc3 => ?_) (fun hc3 => ?_)
        · have hlt : (l1.length : Int) < 15 + belowV d 3 := by simpa using hc3
          have hb3 := (belowV_bd d 3).2 (by omega)
          have hw := wr ((l1.length : Int) + 1) (by omega) (by omega)
          have hall2 : ∀ w ∈ l1 ++ [⟨l1.length, textB d1 8⟩], okW w := by
            intro w hw
            rcases List.mem_append.1 hw with hw | hw
            · exact hall1 w hw
            · rw [List.mem_singleton.1 hw]; refine ⟨by simp only; omega, by simp only; omega, ?_⟩; simp
          have hRd : rD [(⟨l1.length, textB d1 8⟩ : Write)] = [T.sc (.int .i64 ((l1.length : Int))), T.sc (.string (textB d1 8))] := rfl
          have hTn := hRd
          refine DX.skip ?_
          refine DX.block ?_
          refine DX.regs ?_
          refine RegOX.opN 4 (by simp [mapV, pzR, inR, hc2e, hT, hTl, hbb2, hbb3, hb2, hd1e, hw, hRd, hTn, hwv, hd1e]; rfl) ?_
          refine RegOX.step rfl (OpStep.callP (io := 0) (id := 0) (off := 0) (p := []) (sz := 3) (n := 1) (cs0 := curD d1) rfl (by simp [callArgs]; rfl) (l01Text_spec d1 hd1 8 (by omega)) (by simp) rfl rfl (by simp) rfl (by simp) (by simp) (by simp) (by simp [callArgs, FS.lend]; rfl) (by simp [rosOk, roA_, toRC, mapO]) (by simp [widen, ownV, ownC]) (by simp [finish, packDV, packD, ptBack]; rfl)) ?_
          refine RegOX.opN 4 (by simp [mapV, pzR, inR, hc2e, hT, hTl, hbb2, hbb3, hb2, hd1e, hw, hRd, hTn, hwv, hd1e]; rfl) ?_
          refine RegOX.nil ?_
          exact ⟨(l1 ++ [⟨l1.length, textB d1 8⟩], textC d1 8), ⟨(textC_ok hd1 8).1, by simp; omega, hall2⟩, by simp; omega, by simp [mapV, pzR, inR], by simp [mapV, pzR, inR, rD_append, hRd], by simp [mapV, pzR, inR], by rfl⟩
        · skip
          refine DX.exit ?_
          refine DX.seq ?_
          refine DX.reg (by simp (maxSteps := 200000) (disch := first | omega | (simp; done) | fail) [wrapI, leT, leF, ltT, ltF, eqF, nleT, nleF, nltT, nltF, mapV, pzR, inR, hc2e, hT, hTl, hbb2, hbb3, hb2]; rfl) ?_
          refine DX.ret ?_
          refine ⟨_, _, ⟨l1, d1, rfl, rfl, hd1, hl17, hall1⟩, ?_⟩
          simp [Try.results96, mapV, pzR, inR, hTn, hTl]
      · skip
        refine DX.skip ?_
        refine DX.seq ?_
        refine DX.reg (by simp (maxSteps := 200000) (disch := first | omega | (simp; done) | fail) [wrapI, leT, leF, ltT, ltF, eqF, nleT, nleF, nltT, nltF, mapV, pzR, inR, hc2e, hT, hTl, hbb2, hbb3]; rfl) ?_
        refine DX.ret ?_
        refine ⟨_, _, ⟨l, c2, rfl, rfl, kc2, by omega, hall⟩, ?_⟩
        simp [Try.results96, mapV, pzR, inR, hT, hTl]
end Go.Proofs.Ytjjdjkkhhcbogaa.DM
