import Derived.Test.YtjjdjkkhhcbogaaFW6
namespace Go.Proofs.Ytjjdjkkhhcbogaa.DM
set_option linter.unusedVariables false
set_option linter.unusedSimpArgs false
set_option maxRecDepth 4000
set_option maxHeartbeats 8000000
theorem l10Memory_spec (c : Cur) (hc : c.ok) : Spec Try.prog 125 [.ptr (curD c)] [some 2] (dM (memV c).1) [.ptr (curD (memV c).2)] := by
  refine Spec.intro Try.func125 rfl rfl Try.ntmps125 rfl (by simp) ?_
  have hb5 := belowV_bd c 5
  have hb52 := hb5.2 (by omega)
  obtain ⟨q, hqe⟩ : ∃ q : Nat, q = (1 + belowV c 5).toNat := ⟨_, rfl⟩
  have hqv : 1 + belowV c 5 = (q : Int) := by omega
  have hq5 : q ≤ 5 := by omega
  have hqw : IntKind.i64.wrap (q : Int) = (q : Int) := wr _ (by omega) (by omega)
  refine DW.seq ?_
  refine DW.reg (by simp (maxSteps := 200000) (disch := first | omega | (simp; done) | fail) [wrapI, leT, leF, ltT, ltF, eqF, nleT, nleF, nltT, nltF, mapV, pzR, inR]; rfl) ?_
  refine DW.seq ?_
  refine DW.regs ?_
  refine RegO.opN 1 (by simp [mapV, pzR, inR, rD_len_Cell, hqv, hqw]; rfl) ?_
  refine RegO.step rfl (OpStep.callP (io := 0) (id := 0) (off := 0) (p := []) (sz := 3) (n := 1) (cs0 := curD c) rfl (by simp [callArgs]; rfl) (l01Below_spec c hc 5) (by simp) rfl rfl (by simp) rfl (by simp) (by simp) (by simp) (by simp [callArgs, FS.lend]; rfl) (by simp [rosOk, roA_, toRC, mapO]) (by simp [widen, ownV, ownC]) (by simp [finish, packDV, packD, ptBack]; rfl)) ?_
  refine RegO.opN 1 (by simp [mapV, pzR, inR, rD_len_Cell, hqv, hqw]; rfl) ?_
  refine RegO.step rfl (OpStep.callA rfl (by simp [mapV, pzR, inR, rD_len_Cell, hqv, hqw]; exact ⟨rfl, rfl⟩) (by simp [mapV, pzR, inR, rD_len_Cell, hqv, hqw]; rfl) (by exact specMemoryNew_spec q (by omega)) (by simp) (by simp [mapV, pzR, inR, rD_len_Cell, hqv, hqw]; rfl)) ?_
  refine RegO.opN 2 (by simp [mapV, pzR, inR, rD_len_Cell, hqv, hqw]; rfl) ?_
  refine RegO.nil ?_
  refine DW.norm [(0, _), (2, _), (3, _)] [(0, _), (2, _), (3, _)] [(0, _)] (by simp [mapV, pzR, inR]; exact ⟨rfl, rfl, rfl⟩) (by simp [mapV, pzR, inR]; exact ⟨rfl, rfl, rfl⟩) (by simp [mapV, pzR, inR]; rfl) (by rfl) ?_
  refine DW.seq ?_
  refine DW.seq ?_
  refine DW.reg (by simp (maxSteps := 200000) (disch := first | omega | (simp; done) | fail) [wrapI, leT, leF, ltT, ltF, eqF, nleT, nleF, nltT, nltF, mapV, pzR, inR]; rfl) ?_
  refine DW.block ?_
  refine DW.loopS (α := Nat × Memory × Cur) (fun a => a.1 < 12 ∧ a.2.2.ok ∧ a.2.1.Kept.size ≤ 80 ∧ a.2.1.Cells.length ≤ a.1 ∧ memLoop (12 - a.1) a.1 a.2.1 a.2.2 = memV c) (fun a => 12 - a.1) (fun a => [(4, vi a.1)]) (fun a => [(3, .ow () 2 1 (dM a.2.1)), (0, .ow () 3 1 (curD a.2.2))]) [(0, _), (2, _), (3, _)] [(2, _)] [(0, .pt 0 [] 0)] (0, ⟨zeros (q * 16), []⟩, belowC c 5) (⟨by omega, (belowC_ok hc 5).1, by simp; omega, by simp, by simp [memV, ← hqe]⟩) (by simp; exact ⟨rfl, rfl, rfl⟩) (by simp [mapV, pzR, inR]; rfl) (by simp) (by rfl) ?_
  rintro ⟨i, m, d⟩ ⟨hi, hd, hk8, hml8, hR⟩
  simp only at hi hd hk8 hml8 hR ⊢
  have hd1 := belowC_ok hd 12
  have hd2 := belowC_ok hd1.1 5
  refine DW.seq ?_
  refine DW.seq ?_
  refine DW.regs ?_
  refine RegO.opN 2 (by simp (maxSteps := 200000) (disch := first | omega | (simp; done) | fail) [wrapI, leT, leF, ltT, ltF, eqF, nleT, nleF, nltT, nltF, mapV, pzR, inR]; rfl) ?_
  refine RegO.step rfl (OpStep.callP (io := 0) (id := 0) (off := 0) (p := []) (sz := 3) (n := 1) (cs0 := curD d) rfl (by simp [callArgs]; rfl) (l01Below_spec d hd 12) (by simp) rfl rfl (by simp) rfl (by simp) (by simp) (by simp) (by simp [callArgs, FS.lend]; rfl) (by simp [rosOk, roA_, toRC, mapO]) (by simp [widen, ownV, ownC]) (by simp [finish, packDV, packD, ptBack]; rfl)) ?_
  refine RegO.opN 1 (by simp (maxSteps := 200000) (disch := first | omega | (simp; done) | fail) [wrapI, leT, leF, ltT, ltF, eqF, nleT, nleF, nltT, nltF, mapV, pzR, inR]; rfl) ?_
  refine RegO.nil ?_
  refine DW.norm [(0, _), (2, _), (3, _), (4, _), (12, _)] [(0, _), (2, _), (3, _)] [(0, _)] (by simp [mapV, pzR, inR]; exact ⟨rfl, rfl, rfl, rfl, rfl⟩) (by simp [mapV, pzR, inR]; exact ⟨rfl, rfl, rfl⟩) (by simp [mapV, pzR, inR]; rfl) (by rfl) ?_
  refine DW.condB (by simp (maxSteps := 200000) (disch := first | omega | (simp; done) | fail) [wrapI, leT, leF, ltT, ltF, eqF, nleT, nleF, nltT, nltF, mapV, pzR, inR]; exact rfl) (fun hc0 => ?_) (fun hc0 => ?_)
  · have hlt : (i : Int) < belowV d 12 := by simpa using hc0
    have hb12 := (belowV_bd d 12).2 (by omega)
    have hi11 : i < 11 := by omega
    have hR2 : memLoop (12 - (i + 1)) (i + 1) (memStep m (belowC d 12)).1 (memStep m (belowC d 12)).2 = memV c := by
      rw [← hR, show 12 - i = (12 - (i + 1)) + 1 by omega, memLoop, if_pos hlt]
    have hbd := memStep_bd m (belowC d 12)
    have hw := wr ((i : Int) + 1) (by omega) (by omega)
    have hmk : m.Kept.size < 2 ^ 40 := by omega
    have hml : m.Cells.length < 2 ^ 40 := by omega
    generalize hd1e : belowC d 12 = d1 at *
    generalize hd2e : belowC d1 5 = d2 at *
    refine DW.skip ?_
    refine DW.seq ?_
    refine DW.block ?_
    refine DW.seq ?_
    refine DW.regs ?_
    refine RegO.opN 1 (by simp (maxSteps := 200000) (disch := first | omega | (simp; done) | fail) [wrapI, leT, leF, ltT, ltF, eqF, nleT, nleF, nltT, nltF, mapV, pzR, inR, hw, hd2e]; rfl) ?_
    refine RegO.step rfl (OpStep.callP (io := 0) (id := 0) (off := 0) (p := []) (sz := 3) (n := 1) (cs0 := curD d1) rfl (by simp [callArgs]; rfl) (l01Below_spec d1 hd1.1 5) (by simp) rfl rfl (by simp) rfl (by simp) (by simp) (by simp) (by simp [callArgs, FS.lend]; rfl) (by simp [rosOk, roA_, toRC, mapO]) (by simp [widen, ownV, ownC]) (by simp [finish, packDV, packD, ptBack]; rfl)) ?_
    refine RegO.nil ?_
    refine DW.norm [(0, _), (2, _), (3, _), (4, _), (16, _)] [(0, _), (2, _), (3, _)] [(0, _)] (by simp [mapV, pzR, inR, hw, hd2e]; exact ⟨rfl, rfl, rfl, rfl, rfl⟩) (by simp [mapV, pzR, inR, hw, hd2e]; exact ⟨rfl, rfl, rfl⟩) (by simp [mapV, pzR, inR, hw, hd2e]; rfl) (by rfl) ?_
    refine DW.block ?_
    refine DW.seq ?_
    refine DW.reg (by simp (maxSteps := 200000) (disch := first | omega | (simp; done) | fail) [wrapI, leT, leF, ltT, ltF, eqF, nleT, nleF, nltT, nltF, mapV, pzR, inR, hw, hd2e]; rfl) ?_
    refine DW.condB (by simp (maxSteps := 200000) (disch := first | omega | (simp; done) | fail) [wrapI, leT, leF, ltT, ltF, eqF, nleT, nleF, nltT, nltF, mapV, pzR, inR, hw, hd2e]; exact rfl) (fun hc1 => ?_) (fun hc1 => ?_)
    · have hv : belowV d1 5 = 0 := by simpa using hc1
      have hst : memStep m d1 = (fenceM m, d2) := by simp [memStep, hv, hd2e]
      refine DW.regs ?_
      refine RegO.opN 1 (by simp [mapV, pzR, inR, hw, hd2e, rD_len_Cell]; rfl) ?_
      refine RegO.step rfl (OpStep.callA rfl (by simp [mapV, pzR, inR, hw, hd2e, rD_len_Cell]; exact ⟨rfl, rfl⟩) (by simp [mapV, pzR, inR, hw, hd2e, rD_len_Cell]; rfl) (by exact specFence_spec m.Kept m.Cells hmk hml) (by simp) (by simp [mapV, pzR, inR, hw, hd2e, rD_len_Cell]; rfl)) ?_
      refine RegO.opN 1 (by simp [mapV, pzR, inR, hw, hd2e, rD_len_Cell]; rfl) ?_
      refine RegO.nil ?_
      refine DW.norm [(0, _), (2, _), (3, _), (4, _)] [(0, _), (2, _), (3, _)] [(0, _)] (by simp [mapV, pzR, inR, hw, hd2e]; exact ⟨rfl, rfl, rfl, rfl⟩) (by simp [mapV, pzR, inR, hw, hd2e]; exact ⟨rfl, rfl, rfl⟩) (by simp [mapV, pzR, inR, hw, hd2e]; rfl) (by rfl) ?_
      refine DW.reg (by simp (maxSteps := 200000) (disch := first | omega | (simp; done) | fail) [wrapI, leT, leF, ltT, ltF, eqF, nleT, nleF, nltT, nltF, mapV, pzR, inR, hw, hd2e]; rfl) ?_
      exact ⟨(i + 1, (memStep m d1).1, (memStep m d1).2), ⟨by omega, (memStep_ok m hd1.1).1, by rw [hbd.1]; exact hk8, by have := hbd.2; simp only; omega, hR2⟩, by simp only; omega, by simp [mapV, pzR, inR, hw], by simp [hst, mapV, pzR, inR, rD_len_Cell], by simp [mapV, pzR, inR], by rfl⟩
    · have nv : ¬ belowV d1 5 = 0 := by simpa using hc1
      refine DW.seq ?_
      refine DW.reg (by simp (maxSteps := 200000) (disch := first | omega | (simp; done) | fail) [wrapI, leT, leF, ltT, ltF, eqF, nleT, nleF, nltT, nltF, mapV, pzR, inR, hw, hd2e]; rfl) ?_
      refine DW.condB (by simp (maxSteps := 200000) (disch := first | omega | (simp; done) | fail) [wrapI, leT, leF, ltT, ltF, eqF, nleT, nleF, nltT, nltF, mapV, pzR, inR, hw, hd2e]; exact rfl) (fun hc2 => ?_) (fun hc2 => ?_)
      · have hv : belowV d1 5 = 1 := by simpa using hc2
        have hst : memStep m d1 = (flushM m (belowV d2 5), belowC d2 5) := by simp [memStep, hv, hd2e]
        refine DW.drawnP [0, 1, 2, 3, 4] (fun j => if j = 2 then [0] else []) (fun j => if j = 2 then [29] else []) (fun _ => mapV (pzR 0 [] 0 3)) mixed (by kernel_rfl) (by decide) ?_
        refine RegP.add (by rfl) (by simp; rfl) (by intro j; by_cases h : j = 2 <;> simp [h]) ?_
        refine RegP.add (by rfl) (by simp; rfl) (by intro j; by_cases h : j = 2 <;> simp [h]) ?_
        refine RegP.ptr (id := 0) (cs := curD d2) (by rfl) (l01Below_spec d2 hd2.1 5) rfl rfl rfl (by decide) (fun e' h' g' he => by have h30 := he 30 (by simp); simp at h30; simp [callArgs, h30]; rfl) (fun e' h' g' he => by have h30 := he 30 (by simp); simp at h30; simp [callArgs, FS.lend, h30]; rfl) (by intro s'; simp [rosOk, roA_, toRC, mapO]) (by simp [widen, ownV, ownC]) (by simp) rfl (by simp) (by simp) (by simp) (by simp) (by simp [mapV, pzR, inR]) (by simp) (by
          intro k hk d L R hp
          simp at hk
          subst hk
          all_goals (simp [planOf] at hp; obtain ⟨rfl, rfl, rfl⟩ := hp; simp [mapV, pzR, inR])
        ) ?_
        refine RegP.cert (by rfl) (Cert.callHA rfl (by simp [mapV, pzR, inR]) rfl (by decide) (by simp [mapV, pzR, inR]; exact ⟨rfl, rfl⟩) (by simp [mapV, pzR, inR]; rfl) (by exact specFlush_spec m.Kept m.Cells _ hmk hml) rfl (by simp) (by simp) (by simp [mapV, pzR, inR]; rfl) rfl) (by intro j; by_cases h : j = 2 <;> simp [h]) ?_
        refine RegP.heavyF (by rfl) (by simp) (by simp [mapV, pzR, inR, rD_len_Cell]; rfl) (by simp) ?_
        refine ⟨by kernel_rfl, ?_⟩
        refine DW.norm [(0, _), (2, _), (3, _), (4, _)] [(0, _), (2, _), (3, _)] [(0, _)] (by simp [mapV, pzR, inR, hw, hd2e]; exact ⟨rfl, rfl, rfl, rfl⟩) (by simp [mapV, pzR, inR, hw, hd2e]; exact ⟨rfl, rfl, rfl⟩) (by simp [mapV, pzR, inR, hw, hd2e]; rfl) (by rfl) ?_
        refine DW.reg (by simp (maxSteps := 200000) (disch := first | omega | (simp; done) | fail) [wrapI, leT, leF, ltT, ltF, eqF, nleT, nleF, nltT, nltF, mapV, pzR, inR, hw, hd2e]; rfl) ?_
        exact ⟨(i + 1, (memStep m d1).1, (memStep m d1).2), ⟨by omega, (memStep_ok m hd1.1).1, by rw [hbd.1]; exact hk8, by have := hbd.2; simp only; omega, hR2⟩, by simp only; omega, by simp [mapV, pzR, inR, hw], by simp [hst, mapV, pzR, inR, rD_len_Cell], by simp [mapV, pzR, inR], by rfl⟩
      · have nv2 : ¬ belowV d1 5 = 1 := by simpa using hc2
        have hst : memStep m d1 = (storeM m (belowV d2 10) (textB (belowC d2 10) 8), textC (belowC d2 10) 8) := by simp [memStep, nv, nv2, hd2e]
        refine DW.drawnP [0, 1, 3, 2, 4, 5, 6] (fun j => if j = 2 then [0, 3] else if j = 4 then [0] else []) (fun j => if j = 2 then [17, 20] else if j = 4 then [17] else []) (fun _ => mapV (pzR 0 [] 0 3)) mixed (by kernel_rfl) (by decide) ?_
        refine RegP.add (by rfl) (by simp; rfl) (by intro j; by_cases h : j = 2 <;> by_cases h4 : j = 4 <;> simp [h, h4]) ?_
        refine RegP.add (by rfl) (by simp; rfl) (by intro j; by_cases h : j = 2 <;> by_cases h4 : j = 4 <;> simp [h, h4]) ?_
        refine RegP.cert (by rfl) (Cert.mv rfl rfl rfl (by decide)) (by intro j; by_cases h : j = 2 <;> by_cases h4 : j = 4 <;> simp [h, h4]) ?_
        refine RegP.ptr (id := 0) (cs := curD d2) (by rfl) (l01Below_spec d2 hd2.1 10) rfl rfl rfl (by decide) (fun e' h' g' he => by have h18 := he 18 (by simp); simp at h18; simp [callArgs, h18]; rfl) (fun e' h' g' he => by have h18 := he 18 (by simp); simp at h18; simp [callArgs, FS.lend, h18]; rfl) (by intro s'; simp [rosOk, roA_, toRC, mapO]) (by simp [widen, ownV, ownC]) (by simp) rfl (by simp) (by simp) (by simp) (by simp) (by simp [mapV, pzR, inR]) (by simp) (by
          intro k hk d L R hp
          simp at hk
          rcases hk with rfl | rfl
          all_goals (simp [planOf] at hp; obtain ⟨rfl, rfl, rfl⟩ := hp; simp [mapV, pzR, inR])
        ) ?_
        refine RegP.ptr (id := 0) (cs := curD (belowC d2 10)) (by rfl) (l01Text_spec (belowC d2 10) (belowC_ok hd2.1 10).1 8 (by omega)) rfl rfl rfl (by decide) (fun e' h' g' he => by have h20 := he 20 (by simp); simp [mapV, pzR, inR] at h20; simp [callArgs, h20]; rfl) (fun e' h' g' he => by have h20 := he 20 (by simp); simp [mapV, pzR, inR] at h20; simp [callArgs, FS.lend, h20]; rfl) (by intro s'; simp [rosOk, roA_, toRC, mapO]) (by simp [widen, ownV, ownC]) (by simp [mapV, pzR, inR]) rfl (by simp) (by simp) (by simp) (by simp) (by simp [mapV, pzR, inR]) (by simp) (by
          intro k hk d L R hp
          simp at hk
          subst hk
          all_goals (simp [planOf, mapV, pzR, inR] at hp; obtain ⟨rfl, rfl, rfl⟩ := hp; simp [mapV, pzR, inR, mapV, pzR, inR])
        ) ?_
        refine RegP.cert (by rfl) (Cert.callHA rfl (by simp [mapV, pzR, inR]) rfl (by decide) (by simp [mapV, pzR, inR]; exact ⟨rfl, rfl⟩) (by simp [mapV, pzR, inR]; rfl) (by exact specWord_spec m.Kept m.Cells _ _ hmk hml) rfl (by simp) (by simp) (by simp [mapV, pzR, inR]; rfl) rfl) (by intro j; by_cases h : j = 2 <;> by_cases h4 : j = 4 <;> simp [h, h4]) ?_
        refine RegP.heavyF (by rfl) (by simp) (by simp [mapV, pzR, inR, rD_len_Cell]; rfl) (by simp) ?_
        refine ⟨by kernel_rfl, ?_⟩
        refine DW.norm [(0, _), (2, _), (3, _), (4, _)] [(0, _), (2, _), (3, _)] [(0, _)] (by simp [mapV, pzR, inR, hw, hd2e]; exact ⟨rfl, rfl, rfl, rfl⟩) (by simp [mapV, pzR, inR, hw, hd2e]; exact ⟨rfl, rfl, rfl⟩) (by simp [mapV, pzR, inR, hw, hd2e]; rfl) (by rfl) ?_
        refine DW.reg (by simp (maxSteps := 200000) (disch := first | omega | (simp; done) | fail) [wrapI, leT, leF, ltT, ltF, eqF, nleT, nleF, nltT, nltF, mapV, pzR, inR, hw, hd2e]; rfl) ?_
        exact ⟨(i + 1, (memStep m d1).1, (memStep m d1).2), ⟨by omega, (memStep_ok m hd1.1).1, by rw [hbd.1]; exact hk8, by have := hbd.2; simp only; omega, hR2⟩, by simp only; omega, by simp [mapV, pzR, inR, hw], by simp [hst, mapV, pzR, inR, rD_len_Cell], by simp [mapV, pzR, inR], by rfl⟩
  · have hlt : ¬ (i : Int) < belowV d 12 := by simpa using hc0
    have hR2 : memV c = (m, belowC d 12) := by rw [← hR, show 12 - i = (11 - i) + 1 by omega, memLoop, if_neg hlt]
    rw [hR2]
    refine DW.exit ?_
    refine DW.seq ?_
    refine DW.reg (by simp [mapV, pzR, inR]; rfl) ?_
    refine DW.ret ?_
    simp [Try.results125, mapV, pzR, inR, rD_len_Cell]
end Go.Proofs.Ytjjdjkkhhcbogaa.DM
