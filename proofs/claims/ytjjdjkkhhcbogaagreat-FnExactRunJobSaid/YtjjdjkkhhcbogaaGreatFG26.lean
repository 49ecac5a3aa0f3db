import Derived.Test.YtjjdjkkhhcbogaaGreatFG25
namespace Go.Proofs.YtjjdjkkhhcbogaaGreat.DM
set_option linter.unusedVariables false
set_option linter.unusedSimpArgs false
set_option maxRecDepth 4000
set_option maxHeartbeats 8000000
theorem sysOk_geo {s : System} (h : sysOk s = true) : geoOk s.Geo = true := by simp only [sysOk, placed, Bool.and_eq_true] at h; exact h.1.1
theorem isTenantOf_spec (S : System) (t : Int) (hS : Row.sz S ≤ 2 ^ 36) : Spec Tryz.prog 108 [raSystem S, ri t] [none] [db (sysTen S t)] [raSystem S, ri t] := by
  refine Spec.intro Tryz.func108 rfl rfl Tryz.ntmps108 rfl (by simp) ?_
  refine DW.seq ?_
  refine DW.reg (by simp (maxSteps := 200000) (disch := first | omega | (simp; done) | fail) [wrapI, leT, leF, ltT, ltF, eqF, nleT, nleF, nltT, nltF]; rfl) ?_
  refine DW.seq ?_
  have hsp : ((sysOk S) = false) ∨ ((sysOk S) = true ∧ (tenOk S.Geo t) = false) ∨ ((sysOk S) = true ∧ (tenOk S.Geo t) = true) := by
    cases (sysOk S) <;> cases (tenOk S.Geo t) <;> simp
  rcases hsp with g0 | ⟨g0, g1⟩ | ⟨g0, g1⟩
  · have hq : sysTen S t = false := by simp [sysTen, g0]
    refine DW.regs ?_
    refine RegO.opN 1 (by simp (maxSteps := 200000) (disch := first | omega | (simp; done) | fail) [wrapI, leT, leF, ltT, ltF, eqF, nleT, nleF, nltT, nltF, g0]; rfl) ?_
    refine RegO.step rfl (OpStep.callA rfl (by simp (maxSteps := 200000) (disch := first | omega | (simp; done) | fail) [wrapI, leT, leF, ltT, ltF, eqF, nleT, nleF, nltT, nltF, g0]; exact ⟨rfl, rfl⟩) (by simp (maxSteps := 200000) (disch := first | omega | (simp; done) | fail) [wrapI, leT, leF, ltT, ltF, eqF, nleT, nleF, nltT, nltF, g0]; rfl) (by exact implSystemOk_spec S hS) (by simp) (by simp (maxSteps := 200000) (disch := first | omega | (simp; done) | fail) [wrapI, leT, leF, ltT, ltF, eqF, nleT, nleF, nltT, nltF, g0]; rfl)) ?_
    refine RegO.opN 7 (by simp (maxSteps := 200000) (disch := first | omega | (simp; done) | fail) [wrapI, leT, leF, ltT, ltF, eqF, nleT, nleF, nltT, nltF, g0]; rfl) ?_
    refine RegO.nil ?_
    refine DW.ret ?_
    simp [Tryz.results108, hq]
  · have hq : sysTen S t = tenOk S.Geo t := by have h := (sysOk_geo g0); simp [sysTen, tenOk, g0, h]
    refine DW.regs ?_
    refine RegO.opN 1 (by simp (maxSteps := 200000) (disch := first | omega | (simp; done) | fail) [wrapI, leT, leF, ltT, ltF, eqF, nleT, nleF, nltT, nltF, g0, g1]; rfl) ?_
    refine RegO.step rfl (OpStep.callA rfl (by simp (maxSteps := 200000) (disch := first | omega | (simp; done) | fail) [wrapI, leT, leF, ltT, ltF, eqF, nleT, nleF, nltT, nltF, g0, g1]; exact ⟨rfl, rfl⟩) (by simp (maxSteps := 200000) (disch := first | omega | (simp; done) | fail) [wrapI, leT, leF, ltT, ltF, eqF, nleT, nleF, nltT, nltF, g0, g1]; rfl) (by exact implSystemOk_spec S hS) (by simp) (by simp (maxSteps := 200000) (disch := first | omega | (simp; done) | fail) [wrapI, leT, leF, ltT, ltF, eqF, nleT, nleF, nltT, nltF, g0, g1]; rfl)) ?_
    refine RegO.opN 4 (by simp (maxSteps := 200000) (disch := first | omega | (simp; done) | fail) [wrapI, leT, leF, ltT, ltF, eqF, nleT, nleF, nltT, nltF, g0, g1]; rfl) ?_
    refine RegO.stepT (by simp (maxSteps := 200000) (disch := first | omega | (simp; done) | fail) [wrapI, leT, leF, ltT, ltF, eqF, nleT, nleF, nltT, nltF, g0, g1]) (OpStep.callA rfl (by simp (maxSteps := 200000) (disch := first | omega | (simp; done) | fail) [wrapI, leT, leF, ltT, ltF, eqF, nleT, nleF, nltT, nltF, g0, g1]; exact ⟨rfl, rfl⟩) (by simp (maxSteps := 200000) (disch := first | omega | (simp; done) | fail) [wrapI, leT, leF, ltT, ltF, eqF, nleT, nleF, nltT, nltF, g0, g1]; rfl) (by exact isTenant_spec _ _) (by simp) (by simp (maxSteps := 200000) (disch := first | omega | (simp; done) | fail) [wrapI, leT, leF, ltT, ltF, eqF, nleT, nleF, nltT, nltF, g0, g1]; rfl)) ?_
    refine RegO.opN 2 (by simp (maxSteps := 200000) (disch := first | omega | (simp; done) | fail) [wrapI, leT, leF, ltT, ltF, eqF, nleT, nleF, nltT, nltF, g0, g1]; rfl) ?_
    refine RegO.nil ?_
    refine DW.ret ?_
    simp [Tryz.results108, hq, g1]
  · have hq : sysTen S t = tenOk S.Geo t := by have h := (sysOk_geo g0); simp [sysTen, tenOk, g0, h]
    refine DW.regs ?_
    refine RegO.opN 1 (by simp (maxSteps := 200000) (disch := first | omega | (simp; done) | fail) [wrapI, leT, leF, ltT, ltF, eqF, nleT, nleF, nltT, nltF, g0, g1]; rfl) ?_
    refine RegO.step rfl (OpStep.callA rfl (by simp (maxSteps := 200000) (disch := first | omega | (simp; done) | fail) [wrapI, leT, leF, ltT, ltF, eqF, nleT, nleF, nltT, nltF, g0, g1]; exact ⟨rfl, rfl⟩) (by simp (maxSteps := 200000) (disch := first | omega | (simp; done) | fail) [wrapI, leT, leF, ltT, ltF, eqF, nleT, nleF, nltT, nltF, g0, g1]; rfl) (by exact implSystemOk_spec S hS) (by simp) (by simp (maxSteps := 200000) (disch := first | omega | (simp; done) | fail) [wrapI, leT, leF, ltT, ltF, eqF, nleT, nleF, nltT, nltF, g0, g1]; rfl)) ?_
    refine RegO.opN 4 (by simp (maxSteps := 200000) (disch := first | omega | (simp; done) | fail) [wrapI, leT, leF, ltT, ltF, eqF, nleT, nleF, nltT, nltF, g0, g1]; rfl) ?_
    refine RegO.stepT (by simp (maxSteps := 200000) (disch := first | omega | (simp; done) | fail) [wrapI, leT, leF, ltT, ltF, eqF, nleT, nleF, nltT, nltF, g0, g1]) (OpStep.callA rfl (by simp (maxSteps := 200000) (disch := first | omega | (simp; done) | fail) [wrapI, leT, leF, ltT, ltF, eqF, nleT, nleF, nltT, nltF, g0, g1]; exact ⟨rfl, rfl⟩) (by simp (maxSteps := 200000) (disch := first | omega | (simp; done) | fail) [wrapI, leT, leF, ltT, ltF, eqF, nleT, nleF, nltT, nltF, g0, g1]; rfl) (by exact isTenant_spec _ _) (by simp) (by simp (maxSteps := 200000) (disch := first | omega | (simp; done) | fail) [wrapI, leT, leF, ltT, ltF, eqF, nleT, nleF, nltT, nltF, g0, g1]; rfl)) ?_
    refine RegO.opN 2 (by simp (maxSteps := 200000) (disch := first | omega | (simp; done) | fail) [wrapI, leT, leF, ltT, ltF, eqF, nleT, nleF, nltT, nltF, g0, g1]; rfl) ?_
    refine RegO.nil ?_
    refine DW.ret ?_
    simp [Tryz.results108, hq, g1]
theorem implStepJob_spec (S : System) (t : Int) (hS : Row.sz S ≤ 2 ^ 36) : Spec Tryz.prog 37 [raSystem S, ri t] [some 8, some 5, none] (System.d (stepJob S t).1 ++ (Result.d (stepJob S t).2.1 ++ [di (stepJob S t).2.2])) [raSystem S, ri t] := by
  refine Spec.intro Tryz.func37 rfl rfl Tryz.ntmps37 rfl (by simp) ?_
  refine DW.seq ?_
  refine DW.reg (by simp (maxSteps := 200000) (disch := first | omega | (simp; done) | fail) [wrapI, leT, leF, ltT, ltF, eqF, nleT, nleF, nltT, nltF]; rfl) ?_
  refine DW.seq ?_
  refine DW.regs ?_
  refine RegO.opN 1 (by simp; rfl) ?_
  refine RegO.step rfl (OpStep.callA rfl (by simp; exact ⟨rfl, rfl⟩) (by simp; rfl) (by exact copySystem_spec S hS) (by simp) (by simp; rfl)) ?_
  refine RegO.opN 2 (by simp; rfl) ?_
  refine RegO.nil ?_
  refine DW.norm [(1, _), (2, _), (4, _), (5, _), (7, _)] [(2, _), (4, _), (5, _), (7, _)] [] (by simp; exact ⟨rfl, rfl, rfl, rfl, rfl⟩) (by simp; exact ⟨rfl, rfl, rfl, rfl⟩) (by simp) (by rfl) ?_
  refine DW.seq ?_
  refine DW.block ?_
  refine DW.seq ?_
  rcases Bool.eq_false_or_eq_true (sysTen S t) with ht | hn
  · obtain ⟨A, j, B, hJ, rfl, hjt⟩ := sysTen_job ht
    have hJl : A.length < S.Jobs.length := by rw [hJ]; simp
    have hlt1 : (A.length : Int) < S.Jobs.length := by omega
    have hd := rR_drop_Job S.Jobs A.length hJl
    have hgj : S.Jobs[A.length] = j := by
      have h := hjt
      rw [Int.toNat_natCast, List.getElem?_eq_getElem hJl] at h
      exact Option.some.inj h
    rw [hgj] at hd
    have hsv : stepJob S A.length = if j.Busy = true then stepEnd (stepMid S j) A.length else (S, resZ, 3) := by
      unfold stepJob; rw [if_pos ht, hjt]; rfl
    refine DW.regs ?_
    refine RegO.opN 2 (by simp (maxSteps := 200000) (disch := first | omega | (simp; done) | fail) [wrapI, leT, leF, ltT, ltF, eqF, nleT, nleF, nltT, nltF, ht, hlt1, hd]; rfl) ?_
    refine RegO.step rfl (OpStep.callA rfl (by simp (maxSteps := 200000) (disch := first | omega | (simp; done) | fail) [wrapI, leT, leF, ltT, ltF, eqF, nleT, nleF, nltT, nltF, ht, hlt1, hd]; exact ⟨rfl, rfl⟩) (by simp (maxSteps := 200000) (disch := first | omega | (simp; done) | fail) [wrapI, leT, leF, ltT, ltF, eqF, nleT, nleF, nltT, nltF, ht, hlt1, hd]; rfl) (by exact isTenantOf_spec S _ hS) (by simp) (by simp (maxSteps := 200000) (disch := first | omega | (simp; done) | fail) [wrapI, leT, leF, ltT, ltF, eqF, nleT, nleF, nltT, nltF, ht, hlt1, hd]; rfl)) ?_
    refine RegO.opN 2 (by simp (maxSteps := 200000) (disch := first | omega | (simp; done) | fail) [wrapI, leT, leF, ltT, ltF, eqF, nleT, nleF, nltT, nltF, ht, hlt1, hd]; rfl) ?_
    refine RegO.nil ?_
    refine DW.condF (by simp (maxSteps := 200000) (disch := first | omega | (simp; done) | fail) [wrapI, leT, leF, ltT, ltF, eqF, nleT, nleF, nltT, nltF, ht, hlt1, hd]) ?_
    refine DW.seq ?_
    refine DW.reg (by simp (maxSteps := 200000) (disch := first | omega | (simp; done) | fail) [wrapI, leT, leF, ltT, ltF, eqF, nleT, nleF, nltT, nltF, ht, hlt1, hd]; rfl) ?_
    refine DW.condB (by simp (maxSteps := 200000) (disch := first | omega | (simp; done) | fail) [wrapI, leT, leF, ltT, ltF, eqF, nleT, nleF, nltT, nltF, ht, hlt1, hd]; exact rfl) (fun hc1 => ?_) (fun hc1 => ?_)
    · have hbz : j.Busy = false := by simpa using hc1
      have hres : stepJob S A.length = (S, resZ, 3) := by rw [hsv]; simp [hbz]
      refine DW.seq ?_
      refine DW.reg (by simp [ht, hlt1, hd, hbz]; rfl) ?_
      refine DW.ghost (Ghost.wide 5 [4] 1 (by simp; rfl) (by simp)) ?_
      refine DW.ret ?_
      rw [hres]
      simp [Tryz.results37, resZ]
    · have hbz : j.Busy = true := by simpa using hc1
      have hres := hsv.trans (if_pos hbz)
      have hI := implStep_spec S A.length j hS ht hjt
      rw [Int.toNat_natCast] at hI
      generalize stepEnd (stepMid S j) A.length = p at hres hI
      refine DW.skip ?_
      refine DW.seq ?_
      refine DW.regs ?_
      refine RegO.opN 1 (by simp [ht, hlt1, hd, hbz]; rfl) ?_
      refine RegO.step rfl (OpStep.callP (io := 0) (id := 7) (off := 0) (p := []) (sz := 8) (n := 1) (cs0 := System.d S) rfl (by simp [callArgs]; rfl) hI (by simp) rfl rfl (by simp) rfl (by simp) (by simp) (by simp) (by simp [callArgs, FS.lend]; rfl) (by simp [rosOk, roA_, toRC, mapO]) (by simp [widen, ownV, ownC]) (by simp [finish, packDV, packD, ptBack]; rfl)) ?_
      refine RegO.opN 6 (by simp [ht, hlt1, hd, hbz]; rfl) ?_
      refine RegO.nil ?_
      refine DW.norm [(4, _), (5, _), (7, _), (8, _), (9, _)] [(4, _), (5, _), (7, _), (8, _)] [] (by simp [ht, hlt1, hd, hbz, mapV, pzR, inR]; exact ⟨rfl, rfl, rfl, rfl, rfl⟩) (by simp [ht, hlt1, hd, hbz, mapV, pzR, inR]; exact ⟨rfl, rfl, rfl, rfl⟩) (by simp [ht, hlt1, hd, hbz, mapV, pzR, inR]) (by rfl) ?_
      refine DW.seq ?_
      refine DW.drawnK (fun j => if j = 3 then [1, 2] else if j = 4 then [2] else []) (fun j => if j = 3 then [35, 36] else [36]) (fun j => if j = 3 then (fun v => pzV 4 [7] (pzV 7 [7] (pzV 4 [6] (pzV 7 [6] (pzV 4 [5] (pzV 7 [5] v)))))) else (fun v => pzV 5 [4] (pzV 8 [4] v))) mixed (by kernel_rfl) ?_
      refine RegK.cert (cert_of_addF (by simp [ht, hlt1, hd, hbz]; rfl)) (by intro j; by_cases h : j = 3 <;> by_cases h4 : j = 4 <;> simp [h, h4]) ?_
      refine RegK.add (by simp [ht, hlt1, hd, hbz]; rfl) (by intro j hj; by_cases h : j = 3 <;> simp [h]) ?_
      refine RegK.add (by simp [ht, hlt1, hd, hbz]; rfl) (by intro j hj; by_cases h : j = 3 <;> simp [h]) ?_
      refine RegK.swapS [4, 34] rfl (fun e' he => by
        have h4 := he 4 (by simp)
        have h34 := he 34 (by simp)
        simp [ht, hlt1, hd, hbz] at h4 h34
        simp [h4, h34, ht, hlt1, hd, hbz]; exact ⟨rfl, rfl⟩) (by simp) (by simp) (by simp) (by
        intro k hk d L R hp
        simp at hk
        rcases hk with rfl | rfl
        · simp at hp; obtain ⟨rfl, rfl, rfl⟩ := hp; simp
        · simp at hp; obtain ⟨rfl, rfl, rfl⟩ := hp; simp) ?_
      refine RegK.swapS [5, 35] rfl (fun e' he => by
        have h5 := he 5 (by simp)
        have h35 := he 35 (by simp)
        simp [ht, hlt1, hd, hbz] at h5 h35
        simp [h5, h35, ht, hlt1, hd, hbz]; exact ⟨rfl, rfl⟩) (by simp) (by simp) (by simp) (by
        intro k hk d L R hp
        simp at hk
        subst hk
        simp at hp; obtain ⟨rfl, rfl, rfl⟩ := hp; simp) ?_
      refine RegK.cert (cert_of_addF (by simp [ht, hlt1, hd, hbz]; rfl)) (by intro j; by_cases h : j = 3 <;> by_cases h4 : j = 4 <;> simp [h, h4]) ?_
      refine ⟨by kernel_rfl, ?_⟩
      refine DW.ret ?_
      rw [hres]
      simp [Tryz.results37, resZ]
  · have hres : stepJob S t = (S, resZ, 15) := by unfold stepJob; rw [if_neg (by simp [hn])]
    refine DW.regs ?_
    refine RegO.opN 2 (by simp (maxSteps := 200000) (disch := first | omega | (simp; done) | fail) [wrapI, leT, leF, ltT, ltF, eqF, nleT, nleF, nltT, nltF, hn]; rfl) ?_
    refine RegO.step rfl (OpStep.callA rfl (by simp (maxSteps := 200000) (disch := first | omega | (simp; done) | fail) [wrapI, leT, leF, ltT, ltF, eqF, nleT, nleF, nltT, nltF, hn]; exact ⟨rfl, rfl⟩) (by simp (maxSteps := 200000) (disch := first | omega | (simp; done) | fail) [wrapI, leT, leF, ltT, ltF, eqF, nleT, nleF, nltT, nltF, hn]; rfl) (by exact isTenantOf_spec S _ hS) (by simp) (by simp (maxSteps := 200000) (disch := first | omega | (simp; done) | fail) [wrapI, leT, leF, ltT, ltF, eqF, nleT, nleF, nltT, nltF, hn]; rfl)) ?_
    refine RegO.opN 2 (by simp (maxSteps := 200000) (disch := first | omega | (simp; done) | fail) [wrapI, leT, leF, ltT, ltF, eqF, nleT, nleF, nltT, nltF, hn]; rfl) ?_
    refine RegO.nil ?_
    refine DW.condT (by simp (maxSteps := 200000) (disch := first | omega | (simp; done) | fail) [wrapI, leT, leF, ltT, ltF, eqF, nleT, nleF, nltT, nltF, hn]) ?_
    refine DW.seq ?_
    refine DW.reg (by simp [hn]; rfl) ?_
    refine DW.ghost (Ghost.wide 5 [4] 1 (by simp; rfl) (by simp)) ?_
    refine DW.ret ?_
    rw [hres]
    simp [Tryz.results37, resZ]
end Go.Proofs.YtjjdjkkhhcbogaaGreat.DM
