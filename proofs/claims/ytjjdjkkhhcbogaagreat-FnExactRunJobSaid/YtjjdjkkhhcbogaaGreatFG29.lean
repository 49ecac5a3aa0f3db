import Derived.Test.YtjjdjkkhhcbogaaGreatFG28
namespace Go.Proofs.YtjjdjkkhhcbogaaGreat.DM
set_option linter.unusedVariables false
set_option linter.unusedSimpArgs false
set_option maxRecDepth 4000
set_option maxHeartbeats 8000000
theorem specRunJob_spec (S : System) (t : Int) (hS : Row.sz S ≤ 2 ^ 30) : Spec Tryz.prog 41 [raSystem S, ri t] [some 8, some 5] (System.d (runJob S t).1 ++ Result.d (runJob S t).2) [raSystem S, ri t] := by
  refine Spec.intro Tryz.func41 rfl rfl Tryz.ntmps41 rfl (by simp) ?_
  have hS6 : Row.sz S ≤ 2 ^ 36 := by omega
  have hla := leftAt_le S t
  refine DW.seq ?_
  refine DW.reg (by simp (maxSteps := 200000) (disch := first | omega | (simp; done) | fail) [wrapI, leT, leF, ltT, ltF, eqF, nleT, nleF, nltT, nltF]; rfl) ?_
  refine DW.seq ?_
  refine DW.regs ?_
  refine RegO.opN 1 (by simp; rfl) ?_
  refine RegO.step rfl (OpStep.callA rfl (by simp; exact ⟨rfl, rfl⟩) (by simp; rfl) (by exact l23Copy_spec S hS6) (by simp) (by simp; rfl)) ?_
  refine RegO.opN 2 (by simp; rfl) ?_
  refine RegO.nil ?_
  refine DW.norm [(1, _), (2, _), (4, _), (5, _), (6, _)] [(2, _), (4, _), (5, _), (6, _)] [] (by simp; exact ⟨rfl, rfl, rfl, rfl, rfl⟩) (by simp; exact ⟨rfl, rfl, rfl, rfl⟩) (by simp) (by rfl) ?_
  refine DW.seq ?_
  have hsp : ((sysOk S) = false) ∨ ((sysOk S) = true ∧ (inB t 0 (S.Geo.Tenants - 1)) = false) ∨ ((sysOk S) = true ∧ (inB t 0 (S.Geo.Tenants - 1)) = true) := by
    cases (sysOk S) <;> cases (inB t 0 (S.Geo.Tenants - 1)) <;> simp
  rcases hsp with g0 | ⟨g0, g1⟩ | ⟨g0, g1⟩
  · have hres : runJob S t = (S, resZ) := by simp [runJob, sysTen, g0]
    refine DW.reg (by simp [g0]; rfl) ?_
    refine DW.ghost (Ghost.wide 7 [4] 1 (by simp; rfl) (by simp)) ?_
    refine DW.norm [(1, _), (2, _), (4, _), (5, _), (6, _), (7, _)] [(2, _), (4, _), (5, _), (6, _), (7, _)] [] (by simp [g0]; exact ⟨rfl, rfl, rfl, rfl, rfl, rfl⟩) (by simp [g0]; exact ⟨rfl, rfl, rfl, rfl, rfl⟩) (by simp [g0]) (by rfl) ?_
    refine DW.seq ?_
    refine DW.block ?_
    refine DW.loopS (α := Unit) (fun u => True) (fun u => 0) (fun u => []) (fun u => []) [(1, _), (2, _), (4, _), (5, _), (6, _), (7, _)] [(2, _), (4, _), (5, _), (6, _), (7, _)] [] () (trivial) (by simp; exact ⟨rfl, rfl, rfl, rfl, rfl, rfl⟩) (by simp; exact ⟨rfl, rfl, rfl, rfl, rfl⟩) (by simp) (by rfl) ?_
    rintro ⟨⟩ -
    refine DW.seq ?_
    refine DW.seq ?_
    refine DW.regs ?_
    refine RegO.opN 1 (by simp (maxSteps := 200000) (disch := first | omega | (simp; done) | fail) [wrapI, leT, leF, ltT, ltF, eqF, nleT, nleF, nltT, nltF, g0]; rfl) ?_
    refine RegO.step rfl (OpStep.callA rfl (by simp (maxSteps := 200000) (disch := first | omega | (simp; done) | fail) [wrapI, leT, leF, ltT, ltF, eqF, nleT, nleF, nltT, nltF, g0]; exact ⟨rfl, rfl⟩) (by simp (maxSteps := 200000) (disch := first | omega | (simp; done) | fail) [wrapI, leT, leF, ltT, ltF, eqF, nleT, nleF, nltT, nltF, g0]; rfl) (by exact specSystemOk_spec S hS6) (by simp) (by simp (maxSteps := 200000) (disch := first | omega | (simp; done) | fail) [wrapI, leT, leF, ltT, ltF, eqF, nleT, nleF, nltT, nltF, g0]; rfl)) ?_
    refine RegO.opN 16 (by simp (maxSteps := 200000) (disch := first | omega | (simp; done) | fail) [wrapI, leT, leF, ltT, ltF, eqF, nleT, nleF, nltT, nltF, g0]; rfl) ?_
    refine RegO.nil ?_
    refine DW.condF (by simp (maxSteps := 200000) (disch := first | omega | (simp; done) | fail) [wrapI, leT, leF, ltT, ltF, eqF, nleT, nleF, nltT, nltF, g0]) ?_
    refine DW.exit ?_
    refine DW.seq ?_
    refine DW.drawnK (fun j => if j = 2 then [1] else []) (fun _ => [37]) (fun _ => (fun v => pzV 4 [7] (pzV 6 [7] (pzV 4 [6] (pzV 6 [6] (pzV 4 [5] (pzV 6 [5] v))))))) mixed (by kernel_rfl) ?_
    refine RegK.cert (cert_of_addF (by simp [g0]; rfl)) (by intro j; by_cases h : j = 2 <;> simp [h]) ?_
    refine RegK.add (by simp [g0]; rfl) (by simp) ?_
    refine RegK.swapS [4, 36] rfl (fun e' he => by
      have h4 := he 4 (by simp)
      have h36 := he 36 (by simp)
      simp [g0] at h4 h36
      simp [h4, h36, g0]; exact ⟨rfl, rfl⟩) (by simp) (by simp) (by simp) (by
      intro k hk d L R hp
      simp at hk
      subst hk
      simp at hp; obtain ⟨rfl, rfl, rfl⟩ := hp; simp) ?_
    refine RegK.heavyF (by simp) (by simp [g0]; rfl) (by simp) ?_
    refine ⟨by kernel_rfl, ?_⟩
    refine DW.ret ?_
    rw [hres]
    simp [Tryz.results41, resZ]
  · have hwt := wr (S.Geo.Tenants - 1) (by have := (sysOk_in g0).1.t; omega) (by have := (sysOk_in g0).1.t; omega)
    have hres : runJob S t = (S, resZ) := by simp [runJob, sysTen, g0, g1]
    refine DW.reg (by simp [g0, g1, hwt]; rfl) ?_
    refine DW.ghost (Ghost.wide 7 [4] 1 (by simp; rfl) (by simp)) ?_
    refine DW.norm [(1, _), (2, _), (4, _), (5, _), (6, _), (7, _)] [(2, _), (4, _), (5, _), (6, _), (7, _)] [] (by simp [g0, g1, hwt]; exact ⟨rfl, rfl, rfl, rfl, rfl, rfl⟩) (by simp [g0, g1, hwt]; exact ⟨rfl, rfl, rfl, rfl, rfl⟩) (by simp [g0, g1, hwt]) (by rfl) ?_
    refine DW.seq ?_
    refine DW.block ?_
    refine DW.loopS (α := Unit) (fun u => True) (fun u => 0) (fun u => []) (fun u => []) [(1, _), (2, _), (4, _), (5, _), (6, _), (7, _)] [(2, _), (4, _), (5, _), (6, _), (7, _)] [] () (trivial) (by simp; exact ⟨rfl, rfl, rfl, rfl, rfl, rfl⟩) (by simp; exact ⟨rfl, rfl, rfl, rfl, rfl⟩) (by simp) (by rfl) ?_
    rintro ⟨⟩ -
    refine DW.seq ?_
    refine DW.seq ?_
    refine DW.regs ?_
    refine RegO.opN 1 (by simp (maxSteps := 200000) (disch := first | omega | (simp; done) | fail) [wrapI, leT, leF, ltT, ltF, eqF, nleT, nleF, nltT, nltF, g0, g1, hwt]; rfl) ?_
    refine RegO.step rfl (OpStep.callA rfl (by simp (maxSteps := 200000) (disch := first | omega | (simp; done) | fail) [wrapI, leT, leF, ltT, ltF, eqF, nleT, nleF, nltT, nltF, g0, g1, hwt]; exact ⟨rfl, rfl⟩) (by simp (maxSteps := 200000) (disch := first | omega | (simp; done) | fail) [wrapI, leT, leF, ltT, ltF, eqF, nleT, nleF, nltT, nltF, g0, g1, hwt]; rfl) (by exact specSystemOk_spec S hS6) (by simp) (by simp (maxSteps := 200000) (disch := first | omega | (simp; done) | fail) [wrapI, leT, leF, ltT, ltF, eqF, nleT, nleF, nltT, nltF, g0, g1, hwt]; rfl)) ?_
    refine RegO.opN 6 (by simp (maxSteps := 200000) (disch := first | omega | (simp; done) | fail) [wrapI, leT, leF, ltT, ltF, eqF, nleT, nleF, nltT, nltF, g0, g1, hwt]; rfl) ?_
    refine RegO.stepT (by simp (maxSteps := 200000) (disch := first | omega | (simp; done) | fail) [wrapI, leT, leF, ltT, ltF, eqF, nleT, nleF, nltT, nltF, g0, g1, hwt]) (OpStep.callA rfl (by simp (maxSteps := 200000) (disch := first | omega | (simp; done) | fail) [wrapI, leT, leF, ltT, ltF, eqF, nleT, nleF, nltT, nltF, g0, g1, hwt]; exact ⟨rfl, rfl⟩) (by simp (maxSteps := 200000) (disch := first | omega | (simp; done) | fail) [wrapI, leT, leF, ltT, ltF, eqF, nleT, nleF, nltT, nltF, g0, g1, hwt]; rfl) (by exact l01In_spec _ _ _) (by simp) (by simp (maxSteps := 200000) (disch := first | omega | (simp; done) | fail) [wrapI, leT, leF, ltT, ltF, eqF, nleT, nleF, nltT, nltF, g0, g1, hwt]; rfl)) ?_
    refine RegO.opN 9 (by simp (maxSteps := 200000) (disch := first | omega | (simp; done) | fail) [wrapI, leT, leF, ltT, ltF, eqF, nleT, nleF, nltT, nltF, g0, g1, hwt]; rfl) ?_
    refine RegO.nil ?_
    refine DW.condF (by simp (maxSteps := 200000) (disch := first | omega | (simp; done) | fail) [wrapI, leT, leF, ltT, ltF, eqF, nleT, nleF, nltT, nltF, g0, g1, hwt]) ?_
    refine DW.exit ?_
    refine DW.seq ?_
    refine DW.drawnK (fun j => if j = 2 then [1] else []) (fun _ => [37]) (fun _ => (fun v => pzV 4 [7] (pzV 6 [7] (pzV 4 [6] (pzV 6 [6] (pzV 4 [5] (pzV 6 [5] v))))))) mixed (by kernel_rfl) ?_
    refine RegK.cert (cert_of_addF (by simp [g0, g1, hwt]; rfl)) (by intro j; by_cases h : j = 2 <;> simp [h]) ?_
    refine RegK.add (by simp [g0, g1, hwt]; rfl) (by simp) ?_
    refine RegK.swapS [4, 36] rfl (fun e' he => by
      have h4 := he 4 (by simp)
      have h36 := he 36 (by simp)
      simp [g0, g1, hwt] at h4 h36
      simp [h4, h36, g0, g1, hwt]; exact ⟨rfl, rfl⟩) (by simp) (by simp) (by simp) (by
      intro k hk d L R hp
      simp at hk
      subst hk
      simp at hp; obtain ⟨rfl, rfl, rfl⟩ := hp; simp) ?_
    refine RegK.heavyF (by simp) (by simp [g0, g1, hwt]; rfl) (by simp) ?_
    refine ⟨by kernel_rfl, ?_⟩
    refine DW.ret ?_
    rw [hres]
    simp [Tryz.results41, resZ]
  · have hwt := wr (S.Geo.Tenants - 1) (by have := (sysOk_in g0).1.t; omega) (by have := (sysOk_in g0).1.t; omega)
    have ht : sysTen S t = true := by simp [sysTen, g0, g1]
    refine DW.reg (by simp [g0, g1, hwt]; rfl) ?_
    refine DW.ghost (Ghost.wide 7 [4] 1 (by simp; rfl) (by simp)) ?_
    refine DW.norm [(1, _), (2, _), (4, _), (5, _), (6, _), (7, _)] [(2, _), (4, _), (5, _), (6, _), (7, _)] [] (by simp [g0, g1, hwt]; exact ⟨rfl, rfl, rfl, rfl, rfl, rfl⟩) (by simp [g0, g1, hwt]; exact ⟨rfl, rfl, rfl, rfl, rfl⟩) (by simp [g0, g1, hwt]) (by rfl) ?_
    refine DW.seq ?_
    refine DW.block ?_
    refine DW.loopS (α := System × Result × Nat) (fun a => sysTen a.1 t = true ∧ Row.sz a.1 + 17 * a.2.2 ≤ 2 ^ 36 ∧ leftAt a.1 t ≤ a.2.2 ∧ runL a.2.2 a.1 t a.2.1 = runJob S t) (fun a => a.2.2) (fun a => []) (fun a => [(6, .ow () 8 1 (System.d a.1)), (7, .ow () 5 1 (Result.d a.2.1))]) [(1, _), (2, _), (4, _), (5, _), (6, _), (7, _)] [(2, _), (4, _), (5, _)] [] (S, resZ, leftAt S t) (⟨ht, by simp only; omega, Nat.le_refl _, by simp [runJob, ht]⟩) (by simp; exact ⟨rfl, rfl, rfl, rfl, rfl, rfl⟩) (by simp [resZ]; exact ⟨rfl, rfl, rfl⟩) (by simp) (by rfl) ?_
    rintro ⟨S1, R1, n⟩ ⟨ht1, hsz1, hle1, hrun1⟩
    simp only at ht1 hsz1 hle1 hrun1 ⊢
    obtain ⟨A, j, B, hJ, hjA, hjt⟩ := sysTen_job ht1
    have hJl : S1.Jobs.length = A.length + (B.length + 1) := by rw [hJ]; simp
    have hlt : A.length < S1.Jobs.length := by omega
    have hlt1 : (A.length : Int) < S1.Jobs.length := by omega
    have hgj : S1.Jobs[A.length] = j := by
      rw [hjA] at hjt
      rw [Int.toNat_natCast, List.getElem?_eq_getElem hlt] at hjt
      exact Option.some.inj hjt
    have hdr := rD_drop_Job S1.Jobs A.length hlt
    rw [hgj] at hdr
    have hg : (rD S1.Jobs)[A.length * 16 + 14]? = some (T.sc (.bool j.Busy)) := by
      have h := congrArg (fun l => l[14]?) hdr
      simp only [List.getElem?_drop] at h
      simpa using h
    have hle16 : A.length * 16 + 16 ≤ S1.Jobs.length * 16 := by omega
    have htn : t.toNat = A.length := by omega
    have ht0 : 0 ≤ t := by omega
    have htl : t < S1.Jobs.length := by omega
    have hbz : busyAt S1 t = j.Busy := by simp [busyAt, hjt]
    have hlz : j.Busy = true → 0 < leftAt S1 t := fun h => by simp [leftAt, hjt, h]
    refine DW.seq ?_
    refine DW.seq ?_
    refine DW.regs ?_
    refine RegO.opN 1 (by simp (maxSteps := 200000) (disch := first | omega | (simp; done) | fail) [wrapI, leT, leF, ltT, ltF, eqF, nleT, nleF, nltT, nltF, g0, g1, hwt, hg, hle16, htn, ht0, htl]; rfl) ?_
    refine RegO.step rfl (OpStep.callA rfl (by simp (maxSteps := 200000) (disch := first | omega | (simp; done) | fail) [wrapI, leT, leF, ltT, ltF, eqF, nleT, nleF, nltT, nltF, g0, g1, hwt, hg, hle16, htn, ht0, htl]; exact ⟨rfl, rfl⟩) (by simp (maxSteps := 200000) (disch := first | omega | (simp; done) | fail) [wrapI, leT, leF, ltT, ltF, eqF, nleT, nleF, nltT, nltF, g0, g1, hwt, hg, hle16, htn, ht0, htl]; rfl) (by exact specSystemOk_spec S hS6) (by simp) (by simp (maxSteps := 200000) (disch := first | omega | (simp; done) | fail) [wrapI, leT, leF, ltT, ltF, eqF, nleT, nleF, nltT, nltF, g0, g1, hwt, hg, hle16, htn, ht0, htl]; rfl)) ?_
    refine RegO.opN 6 (by simp (maxSteps := 200000) (disch := first | omega | (simp; done) | fail) [wrapI, leT, leF, ltT, ltF, eqF, nleT, nleF, nltT, nltF, g0, g1, hwt, hg, hle16, htn, ht0, htl]; rfl) ?_
    refine RegO.stepT (by simp (maxSteps := 200000) (disch := first | omega | (simp; done) | fail) [wrapI, leT, leF, ltT, ltF, eqF, nleT, nleF, nltT, nltF, g0, g1, hwt, hg, hle16, htn, ht0, htl]) (OpStep.callA rfl (by simp (maxSteps := 200000) (disch := first | omega | (simp; done) | fail) [wrapI, leT, leF, ltT, ltF, eqF, nleT, nleF, nltT, nltF, g0, g1, hwt, hg, hle16, htn, ht0, htl]; exact ⟨rfl, rfl⟩) (by simp (maxSteps := 200000) (disch := first | omega | (simp; done) | fail) [wrapI, leT, leF, ltT, ltF, eqF, nleT, nleF, nltT, nltF, g0, g1, hwt, hg, hle16, htn, ht0, htl]; rfl) (by exact l01In_spec _ _ _) (by simp) (by simp (maxSteps := 200000) (disch := first | omega | (simp; done) | fail) [wrapI, leT, leF, ltT, ltF, eqF, nleT, nleF, nltT, nltF, g0, g1, hwt, hg, hle16, htn, ht0, htl]; rfl)) ?_
    refine RegO.opN 9 (by simp (maxSteps := 200000) (disch := first | omega | (simp; done) | fail) [wrapI, leT, leF, ltT, ltF, eqF, nleT, nleF, nltT, nltF, g0, g1, hwt, hg, hle16, htn, ht0, htl]; rfl) ?_
    refine RegO.nil ?_
    refine DW.condB (by simp (maxSteps := 200000) (disch := first | omega | (simp; done) | fail) [wrapI, leT, leF, ltT, ltF, eqF, nleT, nleF, nltT, nltF, g0, g1, hwt]; exact rfl) (fun hc0 => ?_) (fun hc0 => ?_)
    · have hb : j.Busy = true := by simpa using hc0
      obtain ⟨m, rfl⟩ : ∃ m, n = m + 1 := ⟨n - 1, by have := hlz hb; omega⟩
      obtain ⟨q1, q2, q3, q4⟩ := step_run ht1 (hbz.trans hb)
      have hnx : runL m (stepJob S1 t).1 t (stepJob S1 t).2.1 = runJob S t := by rw [← hrun1]; simp [runL, hbz, hb]
      have hsp := specStepJob_spec S1 t (by omega)
      generalize stepJob S1 t = p at hsp q1 q2 q3 q4 hnx
      obtain ⟨S2, R2, c2⟩ := p
      simp only at hsp q1 q2 q3 q4 hnx
      refine DW.skip ?_
      refine DW.block ?_
      refine DW.regs ?_
      refine RegO.opN 2 (by simp [g0, g1, hwt]; rfl) ?_
      refine RegO.step rfl (OpStep.callA rfl (by simp [g0, g1, hwt]; exact ⟨rfl, rfl⟩) (by simp [g0, g1, hwt]; rfl) (by exact hsp) (by simp) (by simp [g0, g1, hwt]; rfl)) ?_
      refine RegO.opN 6 (by simp [g0, g1, hwt]; rfl) ?_
      refine RegO.nil ?_
      exact ⟨(S2, R2, m), ⟨q1, by simp only; omega, by simp only; omega, hnx⟩, by simp only; omega, by simp, by simp, by simp, by rfl⟩
    · have hb : j.Busy = false := by simpa using hc0
      have hres : runJob S t = (S1, R1) := by rw [← hrun1]; cases n <;> simp [runL, hbz, hb]
      refine DW.exit ?_
      refine DW.seq ?_
      refine DW.drawnK (fun j => if j = 2 then [1] else []) (fun _ => [37]) (fun _ => (fun v => pzV 4 [7] (pzV 6 [7] (pzV 4 [6] (pzV 6 [6] (pzV 4 [5] (pzV 6 [5] v))))))) mixed (by kernel_rfl) ?_
      refine RegK.cert (cert_of_addF (by simp [g0, g1, hwt]; rfl)) (by intro j; by_cases h : j = 2 <;> simp [h]) ?_
      refine RegK.add (by simp [g0, g1, hwt]; rfl) (by simp) ?_
      refine RegK.swapS [4, 36] rfl (fun e' he => by
        have h4 := he 4 (by simp)
        have h36 := he 36 (by simp)
        simp [g0, g1, hwt] at h4 h36
        simp [h4, h36, g0, g1, hwt]; exact ⟨rfl, rfl⟩) (by simp) (by simp) (by simp) (by
        intro k hk d L R hp
        simp at hk
        subst hk
        simp at hp; obtain ⟨rfl, rfl, rfl⟩ := hp; simp) ?_
      refine RegK.heavyF (by simp) (by simp [g0, g1, hwt]; rfl) (by simp) ?_
      refine ⟨by kernel_rfl, ?_⟩
      refine DW.ret ?_
      rw [hres]
      simp [Tryz.results41, resZ]
end Go.Proofs.YtjjdjkkhhcbogaaGreat.DM
