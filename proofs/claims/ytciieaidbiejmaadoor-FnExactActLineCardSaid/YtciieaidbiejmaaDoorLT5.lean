import Derived.Test.YtciieaidbiejmaaDoorLT4
namespace Go.Proofs.YtciieaidbiejmaaDoor.DM
set_option linter.unusedVariables false
set_option linter.unusedSimpArgs false
set_option maxRecDepth 4000
set_option maxHeartbeats 8000000
theorem specAskLine_spec (a : Ask) (hz0 : Row.sz a ≤ 2 ^ 36) (ho : IntOk a.Off) (hl : IntOk a.Len) : Spec Tryd.prog 11 [raAsk a] [none] [ds (askLine a)] [raAsk a] := by
  refine Spec.intro Tryd.func11 rfl rfl Tryd.ntmps11 rfl (by simp) ?_
  have hz := Ask_sz a
  have hsz1 : a.Path.size ≤ 2 ^ 36 := by omega
  have hsz2 : a.To.size ≤ 2 ^ 36 := by omega
  have hsz3 : a.Text.size ≤ 2 ^ 36 := by omega
  have hdo := decB_size a.Off ho.1 ho.2
  have hdl := decB_size a.Len hl.1 hl.2
  have hdx := dashB_size a.Text
  refine DW.seq ?_
  refine DW.reg (by simp (maxSteps := 200000) (disch := first | omega | (simp; done) | fail) [wrapI, leT, leF, ltT, ltF, eqF, nleT, nleF, nltT, nltF]; rfl) ?_
  refine DW.seq ?_
  refine DW.seq ?_
  have hsp : ((askOkB a) = false) ∨ ((askOkB a) = true ∧ (eqA (toldA a) a) = false) ∨ ((askOkB a) = true ∧ (eqA (toldA a) a) = true ∧ (plainP a.Path) = false) ∨ ((askOkB a) = true ∧ (eqA (toldA a) a) = true ∧ (plainP a.Path) = true ∧ ((a.Kind == 5)) = true ∧ (plainP a.To) = false) ∨ ((askOkB a) = true ∧ (eqA (toldA a) a) = true ∧ (plainP a.Path) = true ∧ ((a.Kind == 5)) = false ∧ (inB a.Off 0 1000000000) = false) ∨ ((askOkB a) = true ∧ (eqA (toldA a) a) = true ∧ (plainP a.Path) = true ∧ ((a.Kind == 5)) = true ∧ (plainP a.To) = true ∧ (inB a.Off 0 1000000000) = false) ∨ ((askOkB a) = true ∧ (eqA (toldA a) a) = true ∧ (plainP a.Path) = true ∧ ((a.Kind == 5)) = false ∧ (inB a.Off 0 1000000000) = true ∧ (inB a.Len 0 1000000000) = false) ∨ ((askOkB a) = true ∧ (eqA (toldA a) a) = true ∧ (plainP a.Path) = true ∧ ((a.Kind == 5)) = true ∧ (plainP a.To) = true ∧ (inB a.Off 0 1000000000) = true ∧ (inB a.Len 0 1000000000) = false) ∨ ((askOkB a) = true ∧ (eqA (toldA a) a) = true ∧ (plainP a.Path) = true ∧ ((a.Kind == 5)) = false ∧ (inB a.Off 0 1000000000) = true ∧ (inB a.Len 0 1000000000) = true) ∨ ((askOkB a) = true ∧ (eqA (toldA a) a) = true ∧ (plainP a.Path) = true ∧ ((a.Kind == 5)) = true ∧ (plainP a.To) = true ∧ (inB a.Off 0 1000000000) = true ∧ (inB a.Len 0 1000000000) = true) := by
    cases (askOkB a) <;> cases (eqA (toldA a) a) <;> cases (plainP a.Path) <;> cases ((a.Kind == 5)) <;> cases (plainP a.To) <;> cases (inB a.Off 0 1000000000) <;> cases (inB a.Len 0 1000000000) <;> simp
  rcases hsp with g0 | ⟨g0, g1⟩ | ⟨g0, g1, g2⟩ | ⟨g0, g1, g2, g3, g4⟩ | ⟨g0, g1, g2, g3, g5⟩ | ⟨g0, g1, g2, g3, g4, g5⟩ | ⟨g0, g1, g2, g3, g5, g6⟩ | ⟨g0, g1, g2, g3, g4, g5, g6⟩ | ⟨g0, g1, g2, g3, g5, g6⟩ | ⟨g0, g1, g2, g3, g4, g5, g6⟩
  · have hres : askLine a = ByteArray.empty := by simp [askLine, g0]
    refine DW.drawn mixed (by kernel_rfl) ?_
    refine RegD.addN 1 (by simp [g0]; (first | (simp (disch := omega) only [wrapI, ltF, if_false]; done) | (simp (disch := omega) only [wrapI, ltF, if_false]; first | exact ⟨rfl, rfl⟩ | rfl) | skip); (first | done | exact ⟨rfl, rfl⟩ | rfl)) ?_
    refine RegD.cert (Cert.callA rfl (by simp) rfl (by decide) (by simp [g0]; exact ⟨rfl, rfl⟩) (by simp [g0]; rfl) (by exact specAskOk_spec a) rfl (by simp) (by simp; rfl) rfl) ?_
    refine RegD.addN 6 (by simp [g0]; (first | (simp (disch := omega) only [wrapI, ltF, if_false]; done) | (simp (disch := omega) only [wrapI, ltF, if_false]; first | exact ⟨rfl, rfl⟩ | rfl) | skip); (first | done | exact ⟨rfl, rfl⟩ | rfl)) ?_
    refine RegD.addN 6 (by simp [g0]; (first | (simp (disch := omega) only [wrapI, ltF, if_false]; done) | (simp (disch := omega) only [wrapI, ltF, if_false]; first | exact ⟨rfl, rfl⟩ | rfl) | skip); (first | done | exact ⟨rfl, rfl⟩ | rfl)) ?_
    refine RegD.addN 6 (by simp [g0]; (first | (simp (disch := omega) only [wrapI, ltF, if_false]; done) | (simp (disch := omega) only [wrapI, ltF, if_false]; first | exact ⟨rfl, rfl⟩ | rfl) | skip); (first | done | exact ⟨rfl, rfl⟩ | rfl)) ?_
    refine RegD.addN 6 (by simp [g0]; (first | (simp (disch := omega) only [wrapI, ltF, if_false]; done) | (simp (disch := omega) only [wrapI, ltF, if_false]; first | exact ⟨rfl, rfl⟩ | rfl) | skip); (first | done | exact ⟨rfl, rfl⟩ | rfl)) ?_
    refine RegD.addN 6 (by simp [g0]; (first | (simp (disch := omega) only [wrapI, ltF, if_false]; done) | (simp (disch := omega) only [wrapI, ltF, if_false]; first | exact ⟨rfl, rfl⟩ | rfl) | skip); (first | done | exact ⟨rfl, rfl⟩ | rfl)) ?_
    refine RegD.addN 6 (by simp [g0]; (first | (simp (disch := omega) only [wrapI, ltF, if_false]; done) | (simp (disch := omega) only [wrapI, ltF, if_false]; first | exact ⟨rfl, rfl⟩ | rfl) | skip); (first | done | exact ⟨rfl, rfl⟩ | rfl)) ?_
    refine RegD.nil ⟨by kernel_rfl, ?_⟩
    refine DW.condT (by simp (maxSteps := 200000) (disch := first | omega | (simp; done) | fail) [wrapI, leT, leF, ltT, ltF, eqF, nleT, nleF, nltT, nltF, g0]) ?_
    refine DW.seq ?_
    refine DW.reg (by simp (maxSteps := 200000) (disch := first | omega | (simp; done) | fail) [wrapI, leT, leF, ltT, ltF, eqF, nleT, nleF, nltT, nltF, g0]; rfl) ?_
    refine DW.ret ?_
    rw [hres]
    simp [Tryd.results11]
  · have hres : askLine a = ByteArray.empty := by simp [askLine, g0, g1]
    refine DW.drawn mixed (by kernel_rfl) ?_
    refine RegD.addN 1 (by simp [g0, g1]; (first | (simp (disch := omega) only [wrapI, ltF, if_false]; done) | (simp (disch := omega) only [wrapI, ltF, if_false]; first | exact ⟨rfl, rfl⟩ | rfl) | skip); (first | done | exact ⟨rfl, rfl⟩ | rfl)) ?_
    refine RegD.cert (Cert.callA rfl (by simp) rfl (by decide) (by simp [g0, g1]; exact ⟨rfl, rfl⟩) (by simp [g0, g1]; rfl) (by exact specAskOk_spec a) rfl (by simp) (by simp; rfl) rfl) ?_
    refine RegD.addN 3 (by simp [g0, g1]; (first | (simp (disch := omega) only [wrapI, ltF, if_false]; done) | (simp (disch := omega) only [wrapI, ltF, if_false]; first | exact ⟨rfl, rfl⟩ | rfl) | skip); (first | done | exact ⟨rfl, rfl⟩ | rfl)) ?_
    refine RegD.cert (Cert.callA rfl (by simp [g0, g1]) rfl (by decide) (by simp [g0, g1]; exact ⟨rfl, rfl⟩) (by simp [g0, g1]; rfl) (by exact l31Told_spec a) rfl (by simp) (by simp; rfl) rfl) ?_
    refine RegD.addN 1 (by simp [g0, g1]; (first | (simp (disch := omega) only [wrapI, ltF, if_false]; done) | (simp (disch := omega) only [wrapI, ltF, if_false]; first | exact ⟨rfl, rfl⟩ | rfl) | skip); (first | done | exact ⟨rfl, rfl⟩ | rfl)) ?_
    refine RegD.cert (Cert.neS (askV (toldA a)) (askV a) rfl (by simp (maxSteps := 200000) (disch := first | omega | (simp; done) | fail) [wrapI, leT, leF, ltT, ltF, eqF, nleT, nleF, nltT, nltF, g0, g1]) rfl (by decide) (by simp (maxSteps := 200000) (disch := first | omega | (simp; done) | fail) [wrapI, leT, leF, ltT, ltF, eqF, nleT, nleF, nltT, nltF, g0, g1]) (by simp (maxSteps := 200000) (disch := first | omega | (simp; done) | fail) [wrapI, leT, leF, ltT, ltF, eqF, nleT, nleF, nltT, nltF, g0, g1]) (by kernel_rfl) (fun w => eqAsk_run _ _ 9998 w)) ?_
    refine RegD.addN 6 (by simp [g0, g1]; (first | (simp (disch := omega) only [wrapI, ltF, if_false]; done) | (simp (disch := omega) only [wrapI, ltF, if_false]; first | exact ⟨rfl, rfl⟩ | rfl) | skip); (first | done | exact ⟨rfl, rfl⟩ | rfl)) ?_
    refine RegD.addN 6 (by simp [g0, g1]; (first | (simp (disch := omega) only [wrapI, ltF, if_false]; done) | (simp (disch := omega) only [wrapI, ltF, if_false]; first | exact ⟨rfl, rfl⟩ | rfl) | skip); (first | done | exact ⟨rfl, rfl⟩ | rfl)) ?_
    refine RegD.addN 6 (by simp [g0, g1]; (first | (simp (disch := omega) only [wrapI, ltF, if_false]; done) | (simp (disch := omega) only [wrapI, ltF, if_false]; first | exact ⟨rfl, rfl⟩ | rfl) | skip); (first | done | exact ⟨rfl, rfl⟩ | rfl)) ?_
    refine RegD.addN 6 (by simp [g0, g1]; (first | (simp (disch := omega) only [wrapI, ltF, if_false]; done) | (simp (disch := omega) only [wrapI, ltF, if_false]; first | exact ⟨rfl, rfl⟩ | rfl) | skip); (first | done | exact ⟨rfl, rfl⟩ | rfl)) ?_
    refine RegD.addN 6 (by simp [g0, g1]; (first | (simp (disch := omega) only [wrapI, ltF, if_false]; done) | (simp (disch := omega) only [wrapI, ltF, if_false]; first | exact ⟨rfl, rfl⟩ | rfl) | skip); (first | done | exact ⟨rfl, rfl⟩ | rfl)) ?_
    refine RegD.nil ⟨by kernel_rfl, ?_⟩
    refine DW.condT (by simp (maxSteps := 200000) (disch := first | omega | (simp; done) | fail) [wrapI, leT, leF, ltT, ltF, eqF, nleT, nleF, nltT, nltF, g0, g1]) ?_
    refine DW.seq ?_
    refine DW.reg (by simp (maxSteps := 200000) (disch := first | omega | (simp; done) | fail) [wrapI, leT, leF, ltT, ltF, eqF, nleT, nleF, nltT, nltF, g0, g1]; rfl) ?_
    refine DW.ret ?_
    rw [hres]
    simp [Tryd.results11]
  · have hres : askLine a = ByteArray.empty := by simp [askLine, g0, g1, g2]
    refine DW.drawn mixed (by kernel_rfl) ?_
    refine RegD.addN 1 (by simp [g0, g1, g2]; (first | (simp (disch := omega) only [wrapI, ltF, if_false]; done) | (simp (disch := omega) only [wrapI, ltF, if_false]; first | exact ⟨rfl, rfl⟩ | rfl) | skip); (first | done | exact ⟨rfl, rfl⟩ | rfl)) ?_
    refine RegD.cert (Cert.callA rfl (by simp) rfl (by decide) (by simp [g0, g1, g2]; exact ⟨rfl, rfl⟩) (by simp [g0, g1, g2]; rfl) (by exact specAskOk_spec a) rfl (by simp) (by simp; rfl) rfl) ?_
    refine RegD.addN 3 (by simp [g0, g1, g2]; (first | (simp (disch := omega) only [wrapI, ltF, if_false]; done) | (simp (disch := omega) only [wrapI, ltF, if_false]; first | exact ⟨rfl, rfl⟩ | rfl) | skip); (first | done | exact ⟨rfl, rfl⟩ | rfl)) ?_
    refine RegD.cert (Cert.callA rfl (by simp [g0, g1, g2]) rfl (by decide) (by simp [g0, g1, g2]; exact ⟨rfl, rfl⟩) (by simp [g0, g1, g2]; rfl) (by exact l31Told_spec a) rfl (by simp) (by simp; rfl) rfl) ?_
    refine RegD.addN 1 (by simp [g0, g1, g2]; (first | (simp (disch := omega) only [wrapI, ltF, if_false]; done) | (simp (disch := omega) only [wrapI, ltF, if_false]; first | exact ⟨rfl, rfl⟩ | rfl) | skip); (first | done | exact ⟨rfl, rfl⟩ | rfl)) ?_
    refine RegD.cert (Cert.neS (askV (toldA a)) (askV a) rfl (by simp (maxSteps := 200000) (disch := first | omega | (simp; done) | fail) [wrapI, leT, leF, ltT, ltF, eqF, nleT, nleF, nltT, nltF, g0, g1, g2]) rfl (by decide) (by simp (maxSteps := 200000) (disch := first | omega | (simp; done) | fail) [wrapI, leT, leF, ltT, ltF, eqF, nleT, nleF, nltT, nltF, g0, g1, g2]) (by simp (maxSteps := 200000) (disch := first | omega | (simp; done) | fail) [wrapI, leT, leF, ltT, ltF, eqF, nleT, nleF, nltT, nltF, g0, g1, g2]) (by kernel_rfl) (fun w => eqAsk_run _ _ 9998 w)) ?_
    refine RegD.addN 4 (by simp [g0, g1, g2]; (first | (simp (disch := omega) only [wrapI, ltF, if_false]; done) | (simp (disch := omega) only [wrapI, ltF, if_false]; first | exact ⟨rfl, rfl⟩ | rfl) | skip); (first | done | exact ⟨rfl, rfl⟩ | rfl)) ?_
    refine RegD.cert (Cert.callA rfl (by simp [g0, g1, g2]) rfl (by decide) (by simp [g0, g1, g2]; exact ⟨rfl, rfl⟩) (by simp [g0, g1, g2]; rfl) (by exact l31Plain_spec a.Path (by omega)) rfl (by simp) (by simp; rfl) rfl) ?_
    refine RegD.addN 6 (by simp [g0, g1, g2]; (first | (simp (disch := omega) only [wrapI, ltF, if_false]; done) | (simp (disch := omega) only [wrapI, ltF, if_false]; first | exact ⟨rfl, rfl⟩ | rfl) | skip); (first | done | exact ⟨rfl, rfl⟩ | rfl)) ?_
    refine RegD.addN 6 (by simp [g0, g1, g2]; (first | (simp (disch := omega) only [wrapI, ltF, if_false]; done) | (simp (disch := omega) only [wrapI, ltF, if_false]; first | exact ⟨rfl, rfl⟩ | rfl) | skip); (first | done | exact ⟨rfl, rfl⟩ | rfl)) ?_
    refine RegD.addN 6 (by simp [g0, g1, g2]; (first | (simp (disch := omega) only [wrapI, ltF, if_false]; done) | (simp (disch := omega) only [wrapI, ltF, if_false]; first | exact ⟨rfl, rfl⟩ | rfl) | skip); (first | done | exact ⟨rfl, rfl⟩ | rfl)) ?_
    refine RegD.addN 6 (by simp [g0, g1, g2]; (first | (simp (disch := omega) only [wrapI, ltF, if_false]; done) | (simp (disch := omega) only [wrapI, ltF, if_false]; first | exact ⟨rfl, rfl⟩ | rfl) | skip); (first | done | exact ⟨rfl, rfl⟩ | rfl)) ?_
    refine RegD.addN 1 (by simp [g0, g1, g2]; (first | (simp (disch := omega) only [wrapI, ltF, if_false]; done) | (simp (disch := omega) only [wrapI, ltF, if_false]; first | exact ⟨rfl, rfl⟩ | rfl) | skip); (first | done | exact ⟨rfl, rfl⟩ | rfl)) ?_
    refine RegD.nil ⟨by kernel_rfl, ?_⟩
    refine DW.condT (by simp (maxSteps := 200000) (disch := first | omega | (simp; done) | fail) [wrapI, leT, leF, ltT, ltF, eqF, nleT, nleF, nltT, nltF, g0, g1, g2]) ?_
    refine DW.seq ?_
    refine DW.reg (by simp (maxSteps := 200000) (disch := first | omega | (simp; done) | fail) [wrapI, leT, leF, ltT, ltF, eqF, nleT, nleF, nltT, nltF, g0, g1, g2]; rfl) ?_
    refine DW.ret ?_
    rw [hres]
    simp [Tryd.results11]
  · have g3p : a.Kind = 5 := by simpa using g3
    have hres : askLine a = ByteArray.empty := by simp [askLine, g0, g1, g2, g3p, g4]
    refine DW.drawn mixed (by kernel_rfl) ?_
    refine RegD.addN 1 (by simp [g0, g1, g2, g3, g4]; (first | (simp (disch := omega) only [wrapI, ltF, if_false]; done) | (simp (disch := omega) only [wrapI, ltF, if_false]; first | exact ⟨rfl, rfl⟩ | rfl) | skip); (first | done | exact ⟨rfl, rfl⟩ | rfl)) ?_
    refine RegD.cert (Cert.callA rfl (by simp) rfl (by decide) (by simp [g0, g1, g2, g3, g4]; exact ⟨rfl, rfl⟩) (by simp [g0, g1, g2, g3, g4]; rfl) (by exact specAskOk_spec a) rfl (by simp) (by simp; rfl) rfl) ?_
    refine RegD.addN 3 (by simp [g0, g1, g2, g3, g4]; (first | (simp (disch := omega) only [wrapI, ltF, if_false]; done) | (simp (disch := omega) only [wrapI, ltF, if_false]; first | exact ⟨rfl, rfl⟩ | rfl) | skip); (first | done | exact ⟨rfl, rfl⟩ | rfl)) ?_
    refine RegD.cert (Cert.callA rfl (by simp [g0, g1, g2, g3, g4]) rfl (by decide) (by simp [g0, g1, g2, g3, g4]; exact ⟨rfl, rfl⟩) (by simp [g0, g1, g2, g3, g4]; rfl) (by exact l31Told_spec a) rfl (by simp) (by simp; rfl) rfl) ?_
    refine RegD.addN 1 (by simp [g0, g1, g2, g3, g4]; (first | (simp (disch := omega) only [wrapI, ltF, if_false]; done) | (simp (disch := omega) only [wrapI, ltF, if_false]; first | exact ⟨rfl, rfl⟩ | rfl) | skip); (first | done | exact ⟨rfl, rfl⟩ | rfl)) ?_
    refine RegD.cert (Cert.neS (askV (toldA a)) (askV a) rfl (by simp (maxSteps := 200000) (disch := first | omega | (simp; done) | fail) [wrapI, leT, leF, ltT, ltF, eqF, nleT, nleF, nltT, nltF, g0, g1, g2, g3, g4]) rfl (by decide) (by simp (maxSteps := 200000) (disch := first | omega | (simp; done) | fail) [wrapI, leT, leF, ltT, ltF, eqF, nleT, nleF, nltT, nltF, g0, g1, g2, g3, g4]) (by simp (maxSteps := 200000) (disch := first | omega | (simp; done) | fail) [wrapI, leT, leF, ltT, ltF, eqF, nleT, nleF, nltT, nltF, g0, g1, g2, g3, g4]) (by kernel_rfl) (fun w => eqAsk_run _ _ 9998 w)) ?_
    refine RegD.addN 4 (by simp [g0, g1, g2, g3, g4]; (first | (simp (disch := omega) only [wrapI, ltF, if_false]; done) | (simp (disch := omega) only [wrapI, ltF, if_false]; first | exact ⟨rfl, rfl⟩ | rfl) | skip); (first | done | exact ⟨rfl, rfl⟩ | rfl)) ?_
    refine RegD.cert (Cert.callA rfl (by simp [g0, g1, g2, g3, g4]) rfl (by decide) (by simp [g0, g1, g2, g3, g4]; exact ⟨rfl, rfl⟩) (by simp [g0, g1, g2, g3, g4]; rfl) (by exact l31Plain_spec a.Path (by omega)) rfl (by simp) (by simp; rfl) rfl) ?_
    refine RegD.addN 6 (by simp [g0, g1, g2, g3, g4]; (first | (simp (disch := omega) only [wrapI, ltF, if_false]; done) | (simp (disch := omega) only [wrapI, ltF, if_false]; first | exact ⟨rfl, rfl⟩ | rfl) | skip); (first | done | exact ⟨rfl, rfl⟩ | rfl)) ?_
    refine RegD.addN 3 (by simp [g0, g1, g2, g3, g4]; (first | (simp (disch := omega) only [wrapI, ltF, if_false]; done) | (simp (disch := omega) only [wrapI, ltF, if_false]; first | exact ⟨rfl, rfl⟩ | rfl) | skip); (first | done | exact ⟨rfl, rfl⟩ | rfl)) ?_
    refine RegD.cert (Cert.callA rfl (by simp [g0, g1, g2, g3, g4]) rfl (by decide) (by simp [g0, g1, g2, g3, g4]; exact ⟨rfl, rfl⟩) (by simp [g0, g1, g2, g3, g4]; rfl) (by exact l31Plain_spec a.To (by omega)) rfl (by simp) (by simp; rfl) rfl) ?_
    refine RegD.addN 6 (by simp [g0, g1, g2, g3, g4]; (first | (simp (disch := omega) only [wrapI, ltF, if_false]; done) | (simp (disch := omega) only [wrapI, ltF, if_false]; first | exact ⟨rfl, rfl⟩ | rfl) | skip); (first | done | exact ⟨rfl, rfl⟩ | rfl)) ?_
    refine RegD.addN 6 (by simp [g0, g1, g2, g3, g4]; (first | (simp (disch := omega) only [wrapI, ltF, if_false]; done) | (simp (disch := omega) only [wrapI, ltF, if_false]; first | exact ⟨rfl, rfl⟩ | rfl) | skip); (first | done | exact ⟨rfl, rfl⟩ | rfl)) ?_
    refine RegD.addN 3 (by simp [g0, g1, g2, g3, g4]; (first | (simp (disch := omega) only [wrapI, ltF, if_false]; done) | (simp (disch := omega) only [wrapI, ltF, if_false]; first | exact ⟨rfl, rfl⟩ | rfl) | skip); (first | done | exact ⟨rfl, rfl⟩ | rfl)) ?_
    refine RegD.nil ⟨by kernel_rfl, ?_⟩
    refine DW.condT (by simp (maxSteps := 200000) (disch := first | omega | (simp; done) | fail) [wrapI, leT, leF, ltT, ltF, eqF, nleT, nleF, nltT, nltF, g0, g1, g2, g3, g4]) ?_
    refine DW.seq ?_
    refine DW.reg (by simp (maxSteps := 200000) (disch := first | omega | (simp; done) | fail) [wrapI, leT, leF, ltT, ltF, eqF, nleT, nleF, nltT, nltF, g0, g1, g2, g3, g4]; rfl) ?_
    refine DW.ret ?_
    rw [hres]
    simp [Tryd.results11]
  · have g3p : ¬ a.Kind = 5 := by simpa using g3
    have hres : askLine a = ByteArray.empty := by simp [askLine, g0, g1, g2, g3p, g5]
    refine DW.drawn mixed (by kernel_rfl) ?_
    refine RegD.addN 1 (by simp [g0, g1, g2, g3, g5]; (first | (simp (disch := omega) only [wrapI, ltF, if_false]; done) | (simp (disch := omega) only [wrapI, ltF, if_false]; first | exact ⟨rfl, rfl⟩ | rfl) | skip); (first | done | exact ⟨rfl, rfl⟩ | rfl)) ?_
    refine RegD.cert (Cert.callA rfl (by simp) rfl (by decide) (by simp [g0, g1, g2, g3, g5]; exact ⟨rfl, rfl⟩) (by simp [g0, g1, g2, g3, g5]; rfl) (by exact specAskOk_spec a) rfl (by simp) (by simp; rfl) rfl) ?_
    refine RegD.addN 3 (by simp [g0, g1, g2, g3, g5]; (first | (simp (disch := omega) only [wrapI, ltF, if_false]; done) | (simp (disch := omega) only [wrapI, ltF, if_false]; first | exact ⟨rfl, rfl⟩ | rfl) | skip); (first | done | exact ⟨rfl, rfl⟩ | rfl)) ?_
    refine RegD.cert (Cert.callA rfl (by simp [g0, g1, g2, g3, g5]) rfl (by decide) (by simp [g0, g1, g2, g3, g5]; exact ⟨rfl, rfl⟩) (by simp [g0, g1, g2, g3, g5]; rfl) (by exact l31Told_spec a) rfl (by simp) (by simp; rfl) rfl) ?_
    refine RegD.addN 1 (by simp [g0, g1, g2, g3, g5]; (first | (simp (disch := omega) only [wrapI, ltF, if_false]; done) | (simp (disch := omega) only [wrapI, ltF, if_false]; first | exact ⟨rfl, rfl⟩ | rfl) | skip); (first | done | exact ⟨rfl, rfl⟩ | rfl)) ?_
    refine RegD.cert (Cert.neS (askV (toldA a)) (askV a) rfl (by simp (maxSteps := 200000) (disch := first | omega | (simp; done) | fail) [wrapI, leT, leF, ltT, ltF, eqF, nleT, nleF, nltT, nltF, g0, g1, g2, g3, g5]) rfl (by decide) (by simp (maxSteps := 200000) (disch := first | omega | (simp; done) | fail) [wrapI, leT, leF, ltT, ltF, eqF, nleT, nleF, nltT, nltF, g0, g1, g2, g3, g5]) (by simp (maxSteps := 200000) (disch := first | omega | (simp; done) | fail) [wrapI, leT, leF, ltT, ltF, eqF, nleT, nleF, nltT, nltF, g0, g1, g2, g3, g5]) (by kernel_rfl) (fun w => eqAsk_run _ _ 9998 w)) ?_
    refine RegD.addN 4 (by simp [g0, g1, g2, g3, g5]; (first | (simp (disch := omega) only [wrapI, ltF, if_false]; done) | (simp (disch := omega) only [wrapI, ltF, if_false]; first | exact ⟨rfl, rfl⟩ | rfl) | skip); (first | done | exact ⟨rfl, rfl⟩ | rfl)) ?_
    refine RegD.cert (Cert.callA rfl (by simp [g0, g1, g2, g3, g5]) rfl (by decide) (by simp [g0, g1, g2, g3, g5]; exact ⟨rfl, rfl⟩) (by simp [g0, g1, g2, g3, g5]; rfl) (by exact l31Plain_spec a.Path (by omega)) rfl (by simp) (by simp; rfl) rfl) ?_
    refine RegD.addN 6 (by simp [g0, g1, g2, g3, g5]; (first | (simp (disch := omega) only [wrapI, ltF, if_false]; done) | (simp (disch := omega) only [wrapI, ltF, if_false]; first | exact ⟨rfl, rfl⟩ | rfl) | skip); (first | done | exact ⟨rfl, rfl⟩ | rfl)) ?_
    refine RegD.addN 6 (by simp [g0, g1, g2, g3, g5]; (first | (simp (disch := omega) only [wrapI, ltF, if_false]; done) | (simp (disch := omega) only [wrapI, ltF, if_false]; first | exact ⟨rfl, rfl⟩ | rfl) | skip); (first | done | exact ⟨rfl, rfl⟩ | rfl)) ?_
    refine RegD.addN 4 (by simp [g0, g1, g2, g3, g5]; (first | (simp (disch := omega) only [wrapI, ltF, if_false]; done) | (simp (disch := omega) only [wrapI, ltF, if_false]; first | exact ⟨rfl, rfl⟩ | rfl) | skip); (first | done | exact ⟨rfl, rfl⟩ | rfl)) ?_
    refine RegD.cert (Cert.callA rfl (by simp [g0, g1, g2, g3, g5]) rfl (by decide) (by simp [g0, g1, g2, g3, g5]; exact ⟨rfl, rfl⟩) (by simp [g0, g1, g2, g3, g5]; rfl) (by exact l01In_spec _ _ _) rfl (by simp) (by simp; rfl) rfl) ?_
    refine RegD.addN 6 (by simp [g0, g1, g2, g3, g5]; (first | (simp (disch := omega) only [wrapI, ltF, if_false]; done) | (simp (disch := omega) only [wrapI, ltF, if_false]; first | exact ⟨rfl, rfl⟩ | rfl) | skip); (first | done | exact ⟨rfl, rfl⟩ | rfl)) ?_
    refine RegD.addN 2 (by simp [g0, g1, g2, g3, g5]; (first | (simp (disch := omega) only [wrapI, ltF, if_false]; done) | (simp (disch := omega) only [wrapI, ltF, if_false]; first | exact ⟨rfl, rfl⟩ | rfl) | skip); (first | done | exact ⟨rfl, rfl⟩ | rfl)) ?_
    refine RegD.nil ⟨by kernel_rfl, ?_⟩
    refine DW.condT (by simp (maxSteps := 200000) (disch := first | omega | (simp; done) | fail) [wrapI, leT, leF, ltT, ltF, eqF, nleT, nleF, nltT, nltF, g0, g1, g2, g3, g5]) ?_
    refine DW.seq ?_
    refine DW.reg (by simp (maxSteps := 200000) (disch := first | omega | (simp; done) | fail) [wrapI, leT, leF, ltT, ltF, eqF, nleT, nleF, nltT, nltF, g0, g1, g2, g3, g5]; rfl) ?_
    refine DW.ret ?_
    rw [hres]
    simp [Tryd.results11]
  · have g3p : a.Kind = 5 := by simpa using g3
    have hres : askLine a = ByteArray.empty := by simp [askLine, g0, g1, g2, g3p, g4, g5]
    refine DW.drawn mixed (by kernel_rfl) ?_
    refine RegD.addN 1 (by simp [g0, g1, g2, g3, g4, g5]; (first | (simp (disch := omega) only [wrapI, ltF, if_false]; done) | (simp (disch := omega) only [wrapI, ltF, if_false]; first | exact ⟨rfl, rfl⟩ | rfl) | skip); (first | done | exact ⟨rfl, rfl⟩ | rfl)) ?_
    refine RegD.cert (Cert.callA rfl (by simp) rfl (by decide) (by simp [g0, g1, g2, g3, g4, g5]; exact ⟨rfl, rfl⟩) (by simp [g0, g1, g2, g3, g4, g5]; rfl) (by exact specAskOk_spec a) rfl (by simp) (by simp; rfl) rfl) ?_
    refine RegD.addN 3 (by simp [g0, g1, g2, g3, g4, g5]; (first | (simp (disch := omega) only [wrapI, ltF, if_false]; done) | (simp (disch := omega) only [wrapI, ltF, if_false]; first | exact ⟨rfl, rfl⟩ | rfl) | skip); (first | done | exact ⟨rfl, rfl⟩ | rfl)) ?_
    refine RegD.cert (Cert.callA rfl (by simp [g0, g1, g2, g3, g4, g5]) rfl (by decide) (by simp [g0, g1, g2, g3, g4, g5]; exact ⟨rfl, rfl⟩) (by simp [g0, g1, g2, g3, g4, g5]; rfl) (by exact l31Told_spec a) rfl (by simp) (by simp; rfl) rfl) ?_
    refine RegD.addN 1 (by simp [g0, g1, g2, g3, g4, g5]; (first | (simp (disch := omega) only [wrapI, ltF, if_false]; done) | (simp (disch := omega) only [wrapI, ltF, if_false]; first | exact ⟨rfl, rfl⟩ | rfl) | skip); (first | done | exact ⟨rfl, rfl⟩ | rfl)) ?_
    refine RegD.cert (Cert.neS (askV (toldA a)) (askV a) rfl (by simp (maxSteps := 200000) (disch := first | omega | (simp; done) | fail) [wrapI, leT, leF, ltT, ltF, eqF, nleT, nleF, nltT, nltF, g0, g1, g2, g3, g4, g5]) rfl (by decide) (by simp (maxSteps := 200000) (disch := first | omega | (simp; done) | fail) [wrapI, leT, leF, ltT, ltF, eqF, nleT, nleF, nltT, nltF, g0, g1, g2, g3, g4, g5]) (by simp (maxSteps := 200000) (disch := first | omega | (simp; done) | fail) [wrapI, leT, leF, ltT, ltF, eqF, nleT, nleF, nltT, nltF, g0, g1, g2, g3, g4, g5]) (by kernel_rfl) (fun w => eqAsk_run _ _ 9998 w)) ?_
    refine RegD.addN 4 (by simp [g0, g1, g2, g3, g4, g5]; (first | (simp (disch := omega) only [wrapI, ltF, if_false]; done) | (simp (disch := omega) only [wrapI, ltF, if_false]; first | exact ⟨rfl, rfl⟩ | rfl) | skip); (first | done | exact ⟨rfl, rfl⟩ | rfl)) ?_
    refine RegD.cert (Cert.callA rfl (by simp [g0, g1, g2, g3, g4, g5]) rfl (by decide) (by simp [g0, g1, g2, g3, g4, g5]; exact ⟨rfl, rfl⟩) (by simp [g0, g1, g2, g3, g4, g5]; rfl) (by exact l31Plain_spec a.Path (by omega)) rfl (by simp) (by simp; rfl) rfl) ?_
    refine RegD.addN 6 (by simp [g0, g1, g2, g3, g4, g5]; (first | (simp (disch := omega) only [wrapI, ltF, if_false]; done) | (simp (disch := omega) only [wrapI, ltF, if_false]; first | exact ⟨rfl, rfl⟩ | rfl) | skip); (first | done | exact ⟨rfl, rfl⟩ | rfl)) ?_
    refine RegD.addN 3 (by simp [g0, g1, g2, g3, g4, g5]; (first | (simp (disch := omega) only [wrapI, ltF, if_false]; done) | (simp (disch := omega) only [wrapI, ltF, if_false]; first | exact ⟨rfl, rfl⟩ | rfl) | skip); (first | done | exact ⟨rfl, rfl⟩ | rfl)) ?_
    refine RegD.cert (Cert.callA rfl (by simp [g0, g1, g2, g3, g4, g5]) rfl (by decide) (by simp [g0, g1, g2, g3, g4, g5]; exact ⟨rfl, rfl⟩) (by simp [g0, g1, g2, g3, g4, g5]; rfl) (by exact l31Plain_spec a.To (by omega)) rfl (by simp) (by simp; rfl) rfl) ?_
    refine RegD.addN 6 (by simp [g0, g1, g2, g3, g4, g5]; (first | (simp (disch := omega) only [wrapI, ltF, if_false]; done) | (simp (disch := omega) only [wrapI, ltF, if_false]; first | exact ⟨rfl, rfl⟩ | rfl) | skip); (first | done | exact ⟨rfl, rfl⟩ | rfl)) ?_
    refine RegD.cert (Cert.callA rfl (by simp [g0, g1, g2, g3, g4, g5]) rfl (by decide) (by simp [g0, g1, g2, g3, g4, g5]; exact ⟨rfl, rfl⟩) (by simp [g0, g1, g2, g3, g4, g5]; rfl) (by exact l01In_spec _ _ _) rfl (by simp) (by simp; rfl) rfl) ?_
    refine RegD.addN 6 (by simp [g0, g1, g2, g3, g4, g5]; (first | (simp (disch := omega) only [wrapI, ltF, if_false]; done) | (simp (disch := omega) only [wrapI, ltF, if_false]; first | exact ⟨rfl, rfl⟩ | rfl) | skip); (first | done | exact ⟨rfl, rfl⟩ | rfl)) ?_
    refine RegD.addN 2 (by simp [g0, g1, g2, g3, g4, g5]; (first | (simp (disch := omega) only [wrapI, ltF, if_false]; done) | (simp (disch := omega) only [wrapI, ltF, if_false]; first | exact ⟨rfl, rfl⟩ | rfl) | skip); (first | done | exact ⟨rfl, rfl⟩ | rfl)) ?_
    refine RegD.nil ⟨by kernel_rfl, ?_⟩
    refine DW.condT (by simp (maxSteps := 200000) (disch := first | omega | (simp; done) | fail) [wrapI, leT, leF, ltT, ltF, eqF, nleT, nleF, nltT, nltF, g0, g1, g2, g3, g4, g5]) ?_
    refine DW.seq ?_
    refine DW.reg (by simp (maxSteps := 200000) (disch := first | omega | (simp; done) | fail) [wrapI, leT, leF, ltT, ltF, eqF, nleT, nleF, nltT, nltF, g0, g1, g2, g3, g4, g5]; rfl) ?_
    refine DW.ret ?_
    rw [hres]
    simp [Tryd.results11]
  · have g3p : ¬ a.Kind = 5 := by simpa using g3
    have hres : askLine a = ByteArray.empty := by simp [askLine, g0, g1, g2, g3p, g5, g6]
    refine DW.drawn mixed (by kernel_rfl) ?_
    refine RegD.addN 1 (by simp [g0, g1, g2, g3, g5, g6]; (first | (simp (disch := omega) only [wrapI, ltF, if_false]; done) | (simp (disch := omega) only [wrapI, ltF, if_false]; first | exact ⟨rfl, rfl⟩ | rfl) | skip); (first | done | exact ⟨rfl, rfl⟩ | rfl)) ?_
    refine RegD.cert (Cert.callA rfl (by simp) rfl (by decide) (by simp [g0, g1, g2, g3, g5, g6]; exact ⟨rfl, rfl⟩) (by simp [g0, g1, g2, g3, g5, g6]; rfl) (by exact specAskOk_spec a) rfl (by simp) (by simp; rfl) rfl) ?_
    refine RegD.addN 3 (by simp [g0, g1, g2, g3, g5, g6]; (first | (simp (disch := omega) only [wrapI, ltF, if_false]; done) | (simp (disch := omega) only [wrapI, ltF, if_false]; first | exact ⟨rfl, rfl⟩ | rfl) | skip); (first | done | exact ⟨rfl, rfl⟩ | rfl)) ?_
    refine RegD.cert (Cert.callA rfl (by simp [g0, g1, g2, g3, g5, g6]) rfl (by decide) (by simp [g0, g1, g2, g3, g5, g6]; exact ⟨rfl, rfl⟩) (by simp [g0, g1, g2, g3, g5, g6]; rfl) (by exact l31Told_spec a) rfl (by simp) (by simp; rfl) rfl) ?_
    refine RegD.addN 1 (by simp [g0, g1, g2, g3, g5, g6]; (first | (simp (disch := omega) only [wrapI, ltF, if_false]; done) | (simp (disch := omega) only [wrapI, ltF, if_false]; first | exact ⟨rfl, rfl⟩ | rfl) | skip); (first | done | exact ⟨rfl, rfl⟩ | rfl)) ?_
    refine RegD.cert (Cert.neS (askV (toldA a)) (askV a) rfl (by simp (maxSteps := 200000) (disch := first | omega | (simp; done) | fail) [wrapI, leT, leF, ltT, ltF, eqF, nleT, nleF, nltT, nltF, g0, g1, g2, g3, g5, g6]) rfl (by decide) (by simp (maxSteps := 200000) (disch := first | omega | (simp; done) | fail) [wrapI, leT, leF, ltT, ltF, eqF, nleT, nleF, nltT, nltF, g0, g1, g2, g3, g5, g6]) (by simp (maxSteps := 200000) (disch := first | omega | (simp; done) | fail) [wrapI, leT, leF, ltT, ltF, eqF, nleT, nleF, nltT, nltF, g0, g1, g2, g3, g5, g6]) (by kernel_rfl) (fun w => eqAsk_run _ _ 9998 w)) ?_
    refine RegD.addN 4 (by simp [g0, g1, g2, g3, g5, g6]; (first | (simp (disch := omega) only [wrapI, ltF, if_false]; done) | (simp (disch := omega) only [wrapI, ltF, if_false]; first | exact ⟨rfl, rfl⟩ | rfl) | skip); (first | done | exact ⟨rfl, rfl⟩ | rfl)) ?_
    refine RegD.cert (Cert.callA rfl (by simp [g0, g1, g2, g3, g5, g6]) rfl (by decide) (by simp [g0, g1, g2, g3, g5, g6]; exact ⟨rfl, rfl⟩) (by simp [g0, g1, g2, g3, g5, g6]; rfl) (by exact l31Plain_spec a.Path (by omega)) rfl (by simp) (by simp; rfl) rfl) ?_
    refine RegD.addN 6 (by simp [g0, g1, g2, g3, g5, g6]; (first | (simp (disch := omega) only [wrapI, ltF, if_false]; done) | (simp (disch := omega) only [wrapI, ltF, if_false]; first | exact ⟨rfl, rfl⟩ | rfl) | skip); (first | done | exact ⟨rfl, rfl⟩ | rfl)) ?_
    refine RegD.addN 6 (by simp [g0, g1, g2, g3, g5, g6]; (first | (simp (disch := omega) only [wrapI, ltF, if_false]; done) | (simp (disch := omega) only [wrapI, ltF, if_false]; first | exact ⟨rfl, rfl⟩ | rfl) | skip); (first | done | exact ⟨rfl, rfl⟩ | rfl)) ?_
    refine RegD.addN 4 (by simp [g0, g1, g2, g3, g5, g6]; (first | (simp (disch := omega) only [wrapI, ltF, if_false]; done) | (simp (disch := omega) only [wrapI, ltF, if_false]; first | exact ⟨rfl, rfl⟩ | rfl) | skip); (first | done | exact ⟨rfl, rfl⟩ | rfl)) ?_
    refine RegD.cert (Cert.callA rfl (by simp [g0, g1, g2, g3, g5, g6]) rfl (by decide) (by simp [g0, g1, g2, g3, g5, g6]; exact ⟨rfl, rfl⟩) (by simp [g0, g1, g2, g3, g5, g6]; rfl) (by exact l01In_spec _ _ _) rfl (by simp) (by simp; rfl) rfl) ?_
    refine RegD.addN 5 (by simp [g0, g1, g2, g3, g5, g6]; (first | (simp (disch := omega) only [wrapI, ltF, if_false]; done) | (simp (disch := omega) only [wrapI, ltF, if_false]; first | exact ⟨rfl, rfl⟩ | rfl) | skip); (first | done | exact ⟨rfl, rfl⟩ | rfl)) ?_
    refine RegD.cert (Cert.callA rfl (by simp [g0, g1, g2, g3, g5, g6]) rfl (by decide) (by simp [g0, g1, g2, g3, g5, g6]; exact ⟨rfl, rfl⟩) (by simp [g0, g1, g2, g3, g5, g6]; rfl) (by exact l01In_spec _ _ _) rfl (by simp) (by simp; rfl) rfl) ?_
    refine RegD.addN 2 (by simp [g0, g1, g2, g3, g5, g6]; (first | (simp (disch := omega) only [wrapI, ltF, if_false]; done) | (simp (disch := omega) only [wrapI, ltF, if_false]; first | exact ⟨rfl, rfl⟩ | rfl) | skip); (first | done | exact ⟨rfl, rfl⟩ | rfl)) ?_
    refine RegD.nil ⟨by kernel_rfl, ?_⟩
    refine DW.condT (by simp (maxSteps := 200000) (disch := first | omega | (simp; done) | fail) [wrapI, leT, leF, ltT, ltF, eqF, nleT, nleF, nltT, nltF, g0, g1, g2, g3, g5, g6]) ?_
    refine DW.seq ?_
    refine DW.reg (by simp (maxSteps := 200000) (disch := first | omega | (simp; done) | fail) [wrapI, leT, leF, ltT, ltF, eqF, nleT, nleF, nltT, nltF, g0, g1, g2, g3, g5, g6]; rfl) ?_
    refine DW.ret ?_
    rw [hres]
    simp [Tryd.results11]
  · have g3p : a.Kind = 5 := by simpa using g3
    have hres : askLine a = ByteArray.empty := by simp [askLine, g0, g1, g2, g3p, g4, g5, g6]
    refine DW.drawn mixed (by kernel_rfl) ?_
    refine RegD.addN 1 (by simp [g0, g1, g2, g3, g4, g5, g6]; (first | (simp (disch := omega) only [wrapI, ltF, if_false]; done) | (simp (disch := omega) only [wrapI, ltF, if_false]; first | exact ⟨rfl, rfl⟩ | rfl) | skip); (first | done | exact ⟨rfl, rfl⟩ | rfl)) ?_
    refine RegD.cert (Cert.callA rfl (by simp) rfl (by decide) (by simp [g0, g1, g2, g3, g4, g5, g6]; exact ⟨rfl, rfl⟩) (by simp [g0, g1, g2, g3, g4, g5, g6]; rfl) (by exact specAskOk_spec a) rfl (by simp) (by simp; rfl) rfl) ?_
    refine RegD.addN 3 (by simp [g0, g1, g2, g3, g4, g5, g6]; (first | (simp (disch := omega) only [wrapI, ltF, if_false]; done) | (simp (disch := omega) only [wrapI, ltF, if_false]; first | exact ⟨rfl, rfl⟩ | rfl) | skip); (first | done | exact ⟨rfl, rfl⟩ | rfl)) ?_
    refine RegD.cert (Cert.callA rfl (by simp [g0, g1, g2, g3, g4, g5, g6]) rfl (by decide) (by simp [g0, g1, g2, g3, g4, g5, g6]; exact ⟨rfl, rfl⟩) (by simp [g0, g1, g2, g3, g4, g5, g6]; rfl) (by exact l31Told_spec a) rfl (by simp) (by simp; rfl) rfl) ?_
    refine RegD.addN 1 (by simp [g0, g1, g2, g3, g4, g5, g6]; (first | (simp (disch := omega) only [wrapI, ltF, if_false]; done) | (simp (disch := omega) only [wrapI, ltF, if_false]; first | exact ⟨rfl, rfl⟩ | rfl) | skip); (first | done | exact ⟨rfl, rfl⟩ | rfl)) ?_
    refine RegD.cert (Cert.neS (askV (toldA a)) (askV a) rfl (by simp (maxSteps := 200000) (disch := first | omega | (simp; done) | fail) [wrapI, leT, leF, ltT, ltF, eqF, nleT, nleF, nltT, nltF, g0, g1, g2, g3, g4, g5, g6]) rfl (by decide) (by simp (maxSteps := 200000) (disch := first | omega | (simp; done) | fail) [wrapI, leT, leF, ltT, ltF, eqF, nleT, nleF, nltT, nltF, g0, g1, g2, g3, g4, g5, g6]) (by simp (maxSteps := 200000) (disch := first | omega | (simp; done) | fail) [wrapI, leT, leF, ltT, ltF, eqF, nleT, nleF, nltT, nltF, g0, g1, g2, g3, g4, g5, g6]) (by kernel_rfl) (fun w => eqAsk_run _ _ 9998 w)) ?_
    refine RegD.addN 4 (by simp [g0, g1, g2, g3, g4, g5, g6]; (first | (simp (disch := omega) only [wrapI, ltF, if_false]; done) | (simp (disch := omega) only [wrapI, ltF, if_false]; first | exact ⟨rfl, rfl⟩ | rfl) | skip); (first | done | exact ⟨rfl, rfl⟩ | rfl)) ?_
    refine RegD.cert (Cert.callA rfl (by simp [g0, g1, g2, g3, g4, g5, g6]) rfl (by decide) (by simp [g0, g1, g2, g3, g4, g5, g6]; exact ⟨rfl, rfl⟩) (by simp [g0, g1, g2, g3, g4, g5, g6]; rfl) (by exact l31Plain_spec a.Path (by omega)) rfl (by simp) (by simp; rfl) rfl) ?_
    refine RegD.addN 6 (by simp [g0, g1, g2, g3, g4, g5, g6]; (first | (simp (disch := omega) only [wrapI, ltF, if_false]; done) | (simp (disch := omega) only [wrapI, ltF, if_false]; first | exact ⟨rfl, rfl⟩ | rfl) | skip); (first | done | exact ⟨rfl, rfl⟩ | rfl)) ?_
    refine RegD.addN 3 (by simp [g0, g1, g2, g3, g4, g5, g6]; (first | (simp (disch := omega) only [wrapI, ltF, if_false]; done) | (simp (disch := omega) only [wrapI, ltF, if_false]; first | exact ⟨rfl, rfl⟩ | rfl) | skip); (first | done | exact ⟨rfl, rfl⟩ | rfl)) ?_
    refine RegD.cert (Cert.callA rfl (by simp [g0, g1, g2, g3, g4, g5, g6]) rfl (by decide) (by simp [g0, g1, g2, g3, g4, g5, g6]; exact ⟨rfl, rfl⟩) (by simp [g0, g1, g2, g3, g4, g5, g6]; rfl) (by exact l31Plain_spec a.To (by omega)) rfl (by simp) (by simp; rfl) rfl) ?_
    refine RegD.addN 6 (by simp [g0, g1, g2, g3, g4, g5, g6]; (first | (simp (disch := omega) only [wrapI, ltF, if_false]; done) | (simp (disch := omega) only [wrapI, ltF, if_false]; first | exact ⟨rfl, rfl⟩ | rfl) | skip); (first | done | exact ⟨rfl, rfl⟩ | rfl)) ?_
    refine RegD.cert (Cert.callA rfl (by simp [g0, g1, g2, g3, g4, g5, g6]) rfl (by decide) (by simp [g0, g1, g2, g3, g4, g5, g6]; exact ⟨rfl, rfl⟩) (by simp [g0, g1, g2, g3, g4, g5, g6]; rfl) (by exact l01In_spec _ _ _) rfl (by simp) (by simp; rfl) rfl) ?_
    refine RegD.addN 5 (by simp [g0, g1, g2, g3, g4, g5, g6]; (first | (simp (disch := omega) only [wrapI, ltF, if_false]; done) | (simp (disch := omega) only [wrapI, ltF, if_false]; first | exact ⟨rfl, rfl⟩ | rfl) | skip); (first | done | exact ⟨rfl, rfl⟩ | rfl)) ?_
    refine RegD.cert (Cert.callA rfl (by simp [g0, g1, g2, g3, g4, g5, g6]) rfl (by decide) (by simp [g0, g1, g2, g3, g4, g5, g6]; exact ⟨rfl, rfl⟩) (by simp [g0, g1, g2, g3, g4, g5, g6]; rfl) (by exact l01In_spec _ _ _) rfl (by simp) (by simp; rfl) rfl) ?_
    refine RegD.addN 2 (by simp [g0, g1, g2, g3, g4, g5, g6]; (first | (simp (disch := omega) only [wrapI, ltF, if_false]; done) | (simp (disch := omega) only [wrapI, ltF, if_false]; first | exact ⟨rfl, rfl⟩ | rfl) | skip); (first | done | exact ⟨rfl, rfl⟩ | rfl)) ?_
    refine RegD.nil ⟨by kernel_rfl, ?_⟩
    refine DW.condT (by simp (maxSteps := 200000) (disch := first | omega | (simp; done) | fail) [wrapI, leT, leF, ltT, ltF, eqF, nleT, nleF, nltT, nltF, g0, g1, g2, g3, g4, g5, g6]) ?_
    refine DW.seq ?_
    refine DW.reg (by simp (maxSteps := 200000) (disch := first | omega | (simp; done) | fail) [wrapI, leT, leF, ltT, ltF, eqF, nleT, nleF, nltT, nltF, g0, g1, g2, g3, g4, g5, g6]; rfl) ?_
    refine DW.ret ?_
    rw [hres]
    simp [Tryd.results11]
  · have g3p : ¬ a.Kind = 5 := by simpa using g3
    have hk := g0
    simp only [askOkB, Bool.and_eq_true, decide_eq_true_eq, inB_iff] at hk
    obtain ⟨⟨hk1, hk11⟩, htx⟩ := hk
    have hk0 : 0 ≤ a.Kind := by omega
    have hk12 : a.Kind < 12 := by omega
    obtain ⟨hwg, hws⟩ := word_get a.Kind hk1 hk11
    have hwg2 : ∀ h : a.Kind.toNat < (rD askW).length, (rD askW)[a.Kind.toNat]'h = T.sc (.string (wordAt a.Kind)) := fun h => by rw [List.getElem?_eq_getElem h] at hwg; exact Option.some.inj hwg
    generalize hW : wordAt a.Kind = W at hwg hwg2 hws
    have htx2 : a.Text.size ≤ 20000 := by omega
    have hL : askLine a = W ++ (⟨#[32]⟩ ++ (a.Path ++ askTail a)) := by
      rw [← hW]
      simp [askLine, g0, g1, g2, g3p, g5, g6]
    refine DW.drawn mixed (by kernel_rfl) ?_
    refine RegD.addN 1 (by simp [g0, g1, g2, g3, g5, g6, hk0, hk12, hwg, hwg2]; (first | (simp (disch := omega) only [wrapI, ltF, if_false]; done) | (simp (disch := omega) only [wrapI, ltF, if_false]; first | exact ⟨rfl, rfl⟩ | rfl) | skip); (first | done | exact ⟨rfl, rfl⟩ | rfl)) ?_
    refine RegD.cert (Cert.callA rfl (by simp) rfl (by decide) (by simp [g0, g1, g2, g3, g5, g6, hk0, hk12, hwg, hwg2]; exact ⟨rfl, rfl⟩) (by simp [g0, g1, g2, g3, g5, g6, hk0, hk12, hwg, hwg2]; rfl) (by exact specAskOk_spec a) rfl (by simp) (by simp; rfl) rfl) ?_
    refine RegD.addN 3 (by simp [g0, g1, g2, g3, g5, g6, hk0, hk12, hwg, hwg2]; (first | (simp (disch := omega) only [wrapI, ltF, if_false]; done) | (simp (disch := omega) only [wrapI, ltF, if_false]; first | exact ⟨rfl, rfl⟩ | rfl) | skip); (first | done | exact ⟨rfl, rfl⟩ | rfl)) ?_
    refine RegD.cert (Cert.callA rfl (by simp [g0, g1, g2, g3, g5, g6, hk0, hk12, hwg, hwg2]) rfl (by decide) (by simp [g0, g1, g2, g3, g5, g6, hk0, hk12, hwg, hwg2]; exact ⟨rfl, rfl⟩) (by simp [g0, g1, g2, g3, g5, g6, hk0, hk12, hwg, hwg2]; rfl) (by exact l31Told_spec a) rfl (by simp) (by simp; rfl) rfl) ?_
    refine RegD.addN 1 (by simp [g0, g1, g2, g3, g5, g6, hk0, hk12, hwg, hwg2]; (first | (simp (disch := omega) only [wrapI, ltF, if_false]; done) | (simp (disch := omega) only [wrapI, ltF, if_false]; first | exact ⟨rfl, rfl⟩ | rfl) | skip); (first | done | exact ⟨rfl, rfl⟩ | rfl)) ?_
    refine RegD.cert (Cert.neS (askV (toldA a)) (askV a) rfl (by simp (maxSteps := 200000) (disch := first | omega | (simp; done) | fail) [wrapI, leT, leF, ltT, ltF, eqF, nleT, nleF, nltT, nltF, g0, g1, g2, g3, g5, g6, hk0, hk12, hwg, hwg2]) rfl (by decide) (by simp (maxSteps := 200000) (disch := first | omega | (simp; done) | fail) [wrapI, leT, leF, ltT, ltF, eqF, nleT, nleF, nltT, nltF, g0, g1, g2, g3, g5, g6, hk0, hk12, hwg, hwg2]) (by simp (maxSteps := 200000) (disch := first | omega | (simp; done) | fail) [wrapI, leT, leF, ltT, ltF, eqF, nleT, nleF, nltT, nltF, g0, g1, g2, g3, g5, g6, hk0, hk12, hwg, hwg2]) (by kernel_rfl) (fun w => eqAsk_run _ _ 9998 w)) ?_
    refine RegD.addN 4 (by simp [g0, g1, g2, g3, g5, g6, hk0, hk12, hwg, hwg2]; (first | (simp (disch := omega) only [wrapI, ltF, if_false]; done) | (simp (disch := omega) only [wrapI, ltF, if_false]; first | exact ⟨rfl, rfl⟩ | rfl) | skip); (first | done | exact ⟨rfl, rfl⟩ | rfl)) ?_
    refine RegD.cert (Cert.callA rfl (by simp [g0, g1, g2, g3, g5, g6, hk0, hk12, hwg, hwg2]) rfl (by decide) (by simp [g0, g1, g2, g3, g5, g6, hk0, hk12, hwg, hwg2]; exact ⟨rfl, rfl⟩) (by simp [g0, g1, g2, g3, g5, g6, hk0, hk12, hwg, hwg2]; rfl) (by exact l31Plain_spec a.Path (by omega)) rfl (by simp) (by simp; rfl) rfl) ?_
    refine RegD.addN 6 (by simp [g0, g1, g2, g3, g5, g6, hk0, hk12, hwg, hwg2]; (first | (simp (disch := omega) only [wrapI, ltF, if_false]; done) | (simp (disch := omega) only [wrapI, ltF, if_false]; first | exact ⟨rfl, rfl⟩ | rfl) | skip); (first | done | exact ⟨rfl, rfl⟩ | rfl)) ?_
    refine RegD.addN 6 (by simp [g0, g1, g2, g3, g5, g6, hk0, hk12, hwg, hwg2]; (first | (simp (disch := omega) only [wrapI, ltF, if_false]; done) | (simp (disch := omega) only [wrapI, ltF, if_false]; first | exact ⟨rfl, rfl⟩ | rfl) | skip); (first | done | exact ⟨rfl, rfl⟩ | rfl)) ?_
    refine RegD.addN 4 (by simp [g0, g1, g2, g3, g5, g6, hk0, hk12, hwg, hwg2]; (first | (simp (disch := omega) only [wrapI, ltF, if_false]; done) | (simp (disch := omega) only [wrapI, ltF, if_false]; first | exact ⟨rfl, rfl⟩ | rfl) | skip); (first | done | exact ⟨rfl, rfl⟩ | rfl)) ?_
    refine RegD.cert (Cert.callA rfl (by simp [g0, g1, g2, g3, g5, g6, hk0, hk12, hwg, hwg2]) rfl (by decide) (by simp [g0, g1, g2, g3, g5, g6, hk0, hk12, hwg, hwg2]; exact ⟨rfl, rfl⟩) (by simp [g0, g1, g2, g3, g5, g6, hk0, hk12, hwg, hwg2]; rfl) (by exact l01In_spec _ _ _) rfl (by simp) (by simp; rfl) rfl) ?_
    refine RegD.addN 5 (by simp [g0, g1, g2, g3, g5, g6, hk0, hk12, hwg, hwg2]; (first | (simp (disch := omega) only [wrapI, ltF, if_false]; done) | (simp (disch := omega) only [wrapI, ltF, if_false]; first | exact ⟨rfl, rfl⟩ | rfl) | skip); (first | done | exact ⟨rfl, rfl⟩ | rfl)) ?_
    refine RegD.cert (Cert.callA rfl (by simp [g0, g1, g2, g3, g5, g6, hk0, hk12, hwg, hwg2]) rfl (by decide) (by simp [g0, g1, g2, g3, g5, g6, hk0, hk12, hwg, hwg2]; exact ⟨rfl, rfl⟩) (by simp [g0, g1, g2, g3, g5, g6, hk0, hk12, hwg, hwg2]; rfl) (by exact l01In_spec _ _ _) rfl (by simp) (by simp; rfl) rfl) ?_
    refine RegD.addN 2 (by simp [g0, g1, g2, g3, g5, g6, hk0, hk12, hwg, hwg2]; (first | (simp (disch := omega) only [wrapI, ltF, if_false]; done) | (simp (disch := omega) only [wrapI, ltF, if_false]; first | exact ⟨rfl, rfl⟩ | rfl) | skip); (first | done | exact ⟨rfl, rfl⟩ | rfl)) ?_
    refine RegD.nil ⟨by kernel_rfl, ?_⟩
    refine DW.condF (by simp (maxSteps := 200000) (disch := first | omega | (simp; done) | fail) [wrapI, leT, leF, ltT, ltF, eqF, nleT, nleF, nltT, nltF, g0, g1, g2, g3, g5, g6, hk0, hk12, hwg, hwg2]) ?_
    refine DW.skip ?_
    refine DW.seq ?_
    refine DW.drawn mixed (by kernel_rfl) ?_
    refine RegD.cert (Cert.callHA rfl (by simp) rfl (by decide) (by simp [g0, g1, g2, g3, g5, g6, hk0, hk12, hwg, hwg2]; exact ⟨rfl, rfl⟩) (by simp [g0, g1, g2, g3, g5, g6, hk0, hk12, hwg, hwg2]; rfl) (by exact l31Words_spec) rfl (by simp) (by simp) (by simp; rfl) rfl) ?_
    refine RegD.addN 4 (by simp [g0, g1, g2, g3, g5, g6, hk0, hk12, hwg, hwg2]; (first | (simp (disch := omega) only [wrapI, ltF, if_false]; done) | (simp (disch := omega) only [wrapI, ltF, if_false]; first | exact ⟨rfl, rfl⟩ | rfl) | skip); (first | done | exact ⟨rfl, rfl⟩ | rfl)) ?_
    refine RegD.addN 1 (by simp [g0, g1, g2, g3, g5, g6, hk0, hk12, hwg, hwg2]; (first | (simp (disch := omega) only [wrapI, ltF, if_false]; done) | (simp (disch := omega) only [wrapI, ltF, if_false]; first | exact ⟨rfl, rfl⟩ | rfl) | skip); (first | done | exact ⟨rfl, rfl⟩ | rfl)) ?_
    refine RegD.addN 2 (by simp [g0, g1, g2, g3, g5, g6, hk0, hk12, hwg, hwg2]; (first | (simp (disch := omega) only [wrapI, ltF, if_false]; done) | (simp (disch := omega) only [wrapI, ltF, if_false]; first | exact ⟨rfl, rfl⟩ | rfl) | skip); (first | done | exact ⟨rfl, rfl⟩ | rfl)) ?_
    refine RegD.addN 1 (by simp [g0, g1, g2, g3, g5, g6, hk0, hk12, hwg, hwg2]; (first | (simp (disch := omega) only [wrapI, ltF, if_false]; done) | (simp (disch := omega) only [wrapI, ltF, if_false]; first | exact ⟨rfl, rfl⟩ | rfl) | skip); (first | done | exact ⟨rfl, rfl⟩ | rfl)) ?_
    refine RegD.addN 1 (by simp [g0, g1, g2, g3, g5, g6, hk0, hk12, hwg, hwg2]; (first | (simp (disch := omega) only [wrapI, ltF, if_false]; done) | (simp (disch := omega) only [wrapI, ltF, if_false]; first | exact ⟨rfl, rfl⟩ | rfl) | skip); (first | done | exact ⟨rfl, rfl⟩ | rfl)) ?_
    refine RegD.nil ⟨by kernel_rfl, ?_⟩
    refine DW.seq ?_
    refine DW.seq ?_
    refine DW.reg (by simp (maxSteps := 200000) (disch := first | omega | (simp; done) | fail) [wrapI, leT, leF, ltT, ltF, eqF, nleT, nleF, nltT, nltF, g0, g1, g2, g3, g5, g6, hk0, hk12, hwg, hwg2]; rfl) ?_
    refine DW.block ?_
    refine DW.seq ?_
    refine DW.reg (by simp (maxSteps := 200000) (disch := first | omega | (simp; done) | fail) [wrapI, leT, leF, ltT, ltF, eqF, nleT, nleF, nltT, nltF, g0, g1, g2, g3, g5, g6, hk0, hk12, hwg, hwg2]; rfl) ?_
    refine DW.condF (by simp (maxSteps := 200000) (disch := first | omega | (simp; done) | fail) [wrapI, leT, leF, ltT, ltF, eqF, nleT, nleF, nltT, nltF, g0, g1, g2, g3, g5, g6, hk0, hk12, hwg, hwg2]) ?_
    refine DW.seq ?_
    refine DW.reg (by simp (maxSteps := 200000) (disch := first | omega | (simp; done) | fail) [wrapI, leT, leF, ltT, ltF, eqF, nleT, nleF, nltT, nltF, g0, g1, g2, g3, g5, g6, hk0, hk12, hwg, hwg2]; rfl) ?_
    refine DW.condB (by simp (maxSteps := 200000) (disch := first | omega | (simp; done) | fail) [wrapI, leT, leF, ltT, ltF, eqF, nleT, nleF, nltT, nltF, g0, g1, g2, g3, g5, g6, hk0, hk12, hwg, hwg2]; exact rfl) (fun hc2 => ?_) (fun hc2 => ?_)
    · have e6 : a.Kind = 6 := by simpa using hc2
      refine DW.seq ?_
      refine DW.drawn mixed (by kernel_rfl) ?_
      refine RegD.addN 1 (by simp [g0, g1, g2, g3, g5, g6, hk0, hk12, hwg, hwg2, e6]; (first | (simp (disch := omega) only [wrapI, ltF, if_false]; done) | (simp (disch := omega) only [wrapI, ltF, if_false]; first | exact ⟨rfl, rfl⟩ | rfl) | skip); (first | done | exact ⟨rfl, rfl⟩ | rfl)) ?_
      refine RegD.addN 1 (by simp [g0, g1, g2, g3, g5, g6, hk0, hk12, hwg, hwg2, e6]; (first | (simp (disch := omega) only [wrapI, ltF, if_false]; done) | (simp (disch := omega) only [wrapI, ltF, if_false]; first | exact ⟨rfl, rfl⟩ | rfl) | skip); (first | done | exact ⟨rfl, rfl⟩ | rfl)) ?_
      refine RegD.addN 2 (by simp [g0, g1, g2, g3, g5, g6, hk0, hk12, hwg, hwg2, e6]; (first | (simp (disch := omega) only [wrapI, ltF, if_false]; done) | (simp (disch := omega) only [wrapI, ltF, if_false]; first | exact ⟨rfl, rfl⟩ | rfl) | skip); (first | done | exact ⟨rfl, rfl⟩ | rfl)) ?_
      refine RegD.cert (Cert.callA rfl (by simp) rfl (by decide) (by simp [g0, g1, g2, g3, g5, g6, hk0, hk12, hwg, hwg2, e6]; exact ⟨rfl, rfl⟩) (by simp [g0, g1, g2, g3, g5, g6, hk0, hk12, hwg, hwg2, e6]; rfl) (by exact specDecimal_spec a.Off ho.1 ho.2) rfl (by simp) (by simp; rfl) rfl) ?_
      refine RegD.addN 1 (by simp [g0, g1, g2, g3, g5, g6, hk0, hk12, hwg, hwg2, e6]; (first | (simp (disch := omega) only [wrapI, ltF, if_false]; done) | (simp (disch := omega) only [wrapI, ltF, if_false]; first | exact ⟨rfl, rfl⟩ | rfl) | skip); (first | done | exact ⟨rfl, rfl⟩ | rfl)) ?_
      refine RegD.addN 1 (by simp [g0, g1, g2, g3, g5, g6, hk0, hk12, hwg, hwg2, e6]; (first | (simp (disch := omega) only [wrapI, ltF, if_false]; done) | (simp (disch := omega) only [wrapI, ltF, if_false]; first | exact ⟨rfl, rfl⟩ | rfl) | skip); (first | done | exact ⟨rfl, rfl⟩ | rfl)) ?_
      refine RegD.addN 2 (by simp [g0, g1, g2, g3, g5, g6, hk0, hk12, hwg, hwg2, e6]; (first | (simp (disch := omega) only [wrapI, ltF, if_false]; done) | (simp (disch := omega) only [wrapI, ltF, if_false]; first | exact ⟨rfl, rfl⟩ | rfl) | skip); (first | done | exact ⟨rfl, rfl⟩ | rfl)) ?_
      refine RegD.cert (Cert.callA rfl (by simp) rfl (by decide) (by simp [g0, g1, g2, g3, g5, g6, hk0, hk12, hwg, hwg2, e6]; exact ⟨rfl, rfl⟩) (by simp [g0, g1, g2, g3, g5, g6, hk0, hk12, hwg, hwg2, e6]; rfl) (by exact specDecimal_spec a.Len hl.1 hl.2) rfl (by simp) (by simp; rfl) rfl) ?_
      refine RegD.addN 1 (by simp [g0, g1, g2, g3, g5, g6, hk0, hk12, hwg, hwg2, e6]; (first | (simp (disch := omega) only [wrapI, ltF, if_false]; done) | (simp (disch := omega) only [wrapI, ltF, if_false]; first | exact ⟨rfl, rfl⟩ | rfl) | skip); (first | done | exact ⟨rfl, rfl⟩ | rfl)) ?_
      refine RegD.addN 1 (by simp [g0, g1, g2, g3, g5, g6, hk0, hk12, hwg, hwg2, e6]; (first | (simp (disch := omega) only [wrapI, ltF, if_false]; done) | (simp (disch := omega) only [wrapI, ltF, if_false]; first | exact ⟨rfl, rfl⟩ | rfl) | skip); (first | done | exact ⟨rfl, rfl⟩ | rfl)) ?_
      refine RegD.nil ⟨by kernel_rfl, ?_⟩
      refine DW.ret ?_
      rw [hL]
      unfold askTail
      simp only [g3p, e6, if_true, if_false]
      simp [Tryd.results11, ByteArray.append_assoc]
    · have n6 : ¬ a.Kind = 6 := by simpa using hc2
      refine DW.seq ?_
      refine DW.reg (by simp (maxSteps := 200000) (disch := first | omega | (simp; done) | fail) [wrapI, leT, leF, ltT, ltF, eqF, nleT, nleF, nltT, nltF, g0, g1, g2, g3, g5, g6, hk0, hk12, hwg, hwg2, n6]; rfl) ?_
      refine DW.condB (by simp (maxSteps := 200000) (disch := first | omega | (simp; done) | fail) [wrapI, leT, leF, ltT, ltF, eqF, nleT, nleF, nltT, nltF, g0, g1, g2, g3, g5, g6, hk0, hk12, hwg, hwg2, n6]; exact rfl) (fun hc3 => ?_) (fun hc3 => ?_)
      · have e7 : a.Kind = 7 := by simpa using hc3
        refine DW.seq ?_
        refine DW.regs ?_
        refine RegO.opN 2 (by simp (maxSteps := 200000) (disch := first | omega | (simp; done) | fail) [wrapI, leT, leF, ltT, ltF, eqF, nleT, nleF, nltT, nltF, g0, g1, g2, g3, g5, g6, hk0, hk12, hwg, hwg2, n6, e7]; rfl) ?_
        refine RegO.step rfl (OpStep.callA rfl (by simp (maxSteps := 200000) (disch := first | omega | (simp; done) | fail) [wrapI, leT, leF, ltT, ltF, eqF, nleT, nleF, nltT, nltF, g0, g1, g2, g3, g5, g6, hk0, hk12, hwg, hwg2, n6, e7]; exact ⟨rfl, rfl⟩) (by simp (maxSteps := 200000) (disch := first | omega | (simp; done) | fail) [wrapI, leT, leF, ltT, ltF, eqF, nleT, nleF, nltT, nltF, g0, g1, g2, g3, g5, g6, hk0, hk12, hwg, hwg2, n6, e7]; rfl) (by exact specHex_spec a.Text htx2) (by simp) (by simp (maxSteps := 200000) (disch := first | omega | (simp; done) | fail) [wrapI, leT, leF, ltT, ltF, eqF, nleT, nleF, nltT, nltF, g0, g1, g2, g3, g5, g6, hk0, hk12, hwg, hwg2, n6, e7]; rfl)) ?_
        refine RegO.opN 5 (by simp (maxSteps := 200000) (disch := first | omega | (simp; done) | fail) [wrapI, leT, leF, ltT, ltF, eqF, nleT, nleF, nltT, nltF, g0, g1, g2, g3, g5, g6, hk0, hk12, hwg, hwg2, n6, e7]; rfl) ?_
        refine RegO.nil ?_
        refine DW.seq ?_
        refine DW.seq ?_
        refine DW.reg (by simp (maxSteps := 200000) (disch := first | omega | (simp; done) | fail) [wrapI, leT, leF, ltT, ltF, eqF, nleT, nleF, nltT, nltF, g0, g1, g2, g3, g5, g6, hk0, hk12, hwg, hwg2, n6, e7]; rfl) ?_
        refine DW.condB (by simp (maxSteps := 200000) (disch := first | omega | (simp; done) | fail) [wrapI, leT, leF, ltT, ltF, eqF, nleT, nleF, nltT, nltF, g0, g1, g2, g3, g5, g6, hk0, hk12, hwg, hwg2, n6, e7]; exact rfl) (fun hc4 => ?_) (fun hc4 => ?_)
        · have hh : hexB a.Text = ByteArray.empty := ba_nil.1 (by simpa using hc4)
          have hda : dashB a.Text = ⟨#[45]⟩ := by simp [dashB, hh]
          refine DW.reg (by simp (maxSteps := 200000) (disch := first | omega | (simp; done) | fail) [wrapI, leT, leF, ltT, ltF, eqF, nleT, nleF, nltT, nltF, g0, g1, g2, g3, g5, g6, hk0, hk12, hwg, hwg2, n6, e7, hh]; rfl) ?_
          refine DW.seq ?_
          refine DW.regs ?_
          refine RegO.opN 4 (by simp (maxSteps := 200000) (disch := first | omega | (simp; done) | fail) [wrapI, leT, leF, ltT, ltF, eqF, nleT, nleF, nltT, nltF, g0, g1, g2, g3, g5, g6, hk0, hk12, hwg, hwg2, n6, e7, hh]; rfl) ?_
          refine RegO.step rfl (OpStep.callA rfl (by simp (maxSteps := 200000) (disch := first | omega | (simp; done) | fail) [wrapI, leT, leF, ltT, ltF, eqF, nleT, nleF, nltT, nltF, g0, g1, g2, g3, g5, g6, hk0, hk12, hwg, hwg2, n6, e7, hh]; exact ⟨rfl, rfl⟩) (by simp (maxSteps := 200000) (disch := first | omega | (simp; done) | fail) [wrapI, leT, leF, ltT, ltF, eqF, nleT, nleF, nltT, nltF, g0, g1, g2, g3, g5, g6, hk0, hk12, hwg, hwg2, n6, e7, hh]; rfl) (by exact specDecimal_spec a.Off ho.1 ho.2) (by simp) (by simp (maxSteps := 200000) (disch := first | omega | (simp; done) | fail) [wrapI, leT, leF, ltT, ltF, eqF, nleT, nleF, nltT, nltF, g0, g1, g2, g3, g5, g6, hk0, hk12, hwg, hwg2, n6, e7, hh]; rfl)) ?_
          refine RegO.opN 5 (by simp (maxSteps := 200000) (disch := first | omega | (simp; done) | fail) [wrapI, leT, leF, ltT, ltF, eqF, nleT, nleF, nltT, nltF, g0, g1, g2, g3, g5, g6, hk0, hk12, hwg, hwg2, n6, e7, hh]; rfl) ?_
          refine RegO.nil ?_
          refine DW.ret ?_
          rw [hL]
          unfold askTail
          simp only [g3p, n6, e7, if_true, if_false]
          rw [hda]
          simp [Tryd.results11, ByteArray.append_assoc]
        · have hh : ¬ hexB a.Text = ByteArray.empty := fun e => (show ¬ (hexB a.Text).toList = [] by simpa using hc4) (ba_nil.2 e)
          have hda : dashB a.Text = hexB a.Text := by simp [dashB, hh]
          rw [hda] at hdx
          refine DW.skip ?_
          refine DW.seq ?_
          refine DW.regs ?_
          refine RegO.opN 4 (by simp (maxSteps := 200000) (disch := first | omega | (simp; done) | fail) [wrapI, leT, leF, ltT, ltF, eqF, nleT, nleF, nltT, nltF, g0, g1, g2, g3, g5, g6, hk0, hk12, hwg, hwg2, n6, e7]; rfl) ?_
          refine RegO.step rfl (OpStep.callA rfl (by simp (maxSteps := 200000) (disch := first | omega | (simp; done) | fail) [wrapI, leT, leF, ltT, ltF, eqF, nleT, nleF, nltT, nltF, g0, g1, g2, g3, g5, g6, hk0, hk12, hwg, hwg2, n6, e7]; exact ⟨rfl, rfl⟩) (by simp (maxSteps := 200000) (disch := first | omega | (simp; done) | fail) [wrapI, leT, leF, ltT, ltF, eqF, nleT, nleF, nltT, nltF, g0, g1, g2, g3, g5, g6, hk0, hk12, hwg, hwg2, n6, e7]; rfl) (by exact specDecimal_spec a.Off ho.1 ho.2) (by simp) (by simp (maxSteps := 200000) (disch := first | omega | (simp; done) | fail) [wrapI, leT, leF, ltT, ltF, eqF, nleT, nleF, nltT, nltF, g0, g1, g2, g3, g5, g6, hk0, hk12, hwg, hwg2, n6, e7]; rfl)) ?_
          refine RegO.opN 5 (by simp (maxSteps := 200000) (disch := first | omega | (simp; done) | fail) [wrapI, leT, leF, ltT, ltF, eqF, nleT, nleF, nltT, nltF, g0, g1, g2, g3, g5, g6, hk0, hk12, hwg, hwg2, n6, e7]; rfl) ?_
          refine RegO.nil ?_
          refine DW.ret ?_
          rw [hL]
          unfold askTail
          simp only [g3p, n6, e7, if_true, if_false]
          rw [hda]
          simp [Tryd.results11, ByteArray.append_assoc]
      · have n7 : ¬ a.Kind = 7 := by simpa using hc3
        refine DW.seq ?_
        refine DW.reg (by simp (maxSteps := 200000) (disch := first | omega | (simp; done) | fail) [wrapI, leT, leF, ltT, ltF, eqF, nleT, nleF, nltT, nltF, g0, g1, g2, g3, g5, g6, hk0, hk12, hwg, hwg2, n6, n7]; rfl) ?_
        refine DW.condB (by simp (maxSteps := 200000) (disch := first | omega | (simp; done) | fail) [wrapI, leT, leF, ltT, ltF, eqF, nleT, nleF, nltT, nltF, g0, g1, g2, g3, g5, g6, hk0, hk12, hwg, hwg2, n6, n7]; exact rfl) (fun hc5 => ?_) (fun hc5 => ?_)
        · have e8 : a.Kind = 8 := by simpa using hc5
          refine DW.seq ?_
          refine DW.regs ?_
          refine RegO.opN 4 (by simp (maxSteps := 200000) (disch := first | omega | (simp; done) | fail) [wrapI, leT, leF, ltT, ltF, eqF, nleT, nleF, nltT, nltF, g0, g1, g2, g3, g5, g6, hk0, hk12, hwg, hwg2, n6, n7, e8]; rfl) ?_
          refine RegO.step rfl (OpStep.callA rfl (by simp (maxSteps := 200000) (disch := first | omega | (simp; done) | fail) [wrapI, leT, leF, ltT, ltF, eqF, nleT, nleF, nltT, nltF, g0, g1, g2, g3, g5, g6, hk0, hk12, hwg, hwg2, n6, n7, e8]; exact ⟨rfl, rfl⟩) (by simp (maxSteps := 200000) (disch := first | omega | (simp; done) | fail) [wrapI, leT, leF, ltT, ltF, eqF, nleT, nleF, nltT, nltF, g0, g1, g2, g3, g5, g6, hk0, hk12, hwg, hwg2, n6, n7, e8]; rfl) (by exact specDecimal_spec a.Len hl.1 hl.2) (by simp) (by simp (maxSteps := 200000) (disch := first | omega | (simp; done) | fail) [wrapI, leT, leF, ltT, ltF, eqF, nleT, nleF, nltT, nltF, g0, g1, g2, g3, g5, g6, hk0, hk12, hwg, hwg2, n6, n7, e8]; rfl)) ?_
          refine RegO.opN 2 (by simp (maxSteps := 200000) (disch := first | omega | (simp; done) | fail) [wrapI, leT, leF, ltT, ltF, eqF, nleT, nleF, nltT, nltF, g0, g1, g2, g3, g5, g6, hk0, hk12, hwg, hwg2, n6, n7, e8]; rfl) ?_
          refine RegO.nil ?_
          refine DW.ret ?_
          rw [hL]
          unfold askTail
          simp only [g3p, n6, n7, e8, if_true, if_false]
          simp [Tryd.results11, ByteArray.append_assoc]
        · have n8 : ¬ a.Kind = 8 := by simpa using hc5
          refine DW.skip ?_
          refine DW.seq ?_
          refine DW.reg (by simp (maxSteps := 200000) (disch := first | omega | (simp; done) | fail) [wrapI, leT, leF, ltT, ltF, eqF, nleT, nleF, nltT, nltF, g0, g1, g2, g3, g5, g6, hk0, hk12, hwg, hwg2, n6, n7, n8]; rfl) ?_
          refine DW.ret ?_
          rw [hL]
          unfold askTail
          simp only [g3p, n6, n7, n8, if_true, if_false]
          simp [Tryd.results11, ByteArray.append_assoc]
  · have g3p : a.Kind = 5 := by simpa using g3
    have hk := g0
    simp only [askOkB, Bool.and_eq_true, decide_eq_true_eq, inB_iff] at hk
    obtain ⟨⟨hk1, hk11⟩, htx⟩ := hk
    have hk0 : 0 ≤ a.Kind := by omega
    have hk12 : a.Kind < 12 := by omega
    obtain ⟨hwg, hws⟩ := word_get a.Kind hk1 hk11
    have hwg2 : ∀ h : a.Kind.toNat < (rD askW).length, (rD askW)[a.Kind.toNat]'h = T.sc (.string (wordAt a.Kind)) := fun h => by rw [List.getElem?_eq_getElem h] at hwg; exact Option.some.inj hwg
    generalize hW : wordAt a.Kind = W at hwg hwg2 hws
    have htx2 : a.Text.size ≤ 20000 := by omega
    have hL : askLine a = W ++ (⟨#[32]⟩ ++ (a.Path ++ askTail a)) := by
      rw [← hW]
      simp [askLine, g0, g1, g2, g3p, g4, g5, g6]
    refine DW.drawn mixed (by kernel_rfl) ?_
    refine RegD.addN 1 (by simp [g0, g1, g2, g3, g4, g5, g6, hk0, hk12, hwg, hwg2]; (first | (simp (disch := omega) only [wrapI, ltF, if_false]; done) | (simp (disch := omega) only [wrapI, ltF, if_false]; first | exact ⟨rfl, rfl⟩ | rfl) | skip); (first | done | exact ⟨rfl, rfl⟩ | rfl)) ?_
    refine RegD.cert (Cert.callA rfl (by simp) rfl (by decide) (by simp [g0, g1, g2, g3, g4, g5, g6, hk0, hk12, hwg, hwg2]; exact ⟨rfl, rfl⟩) (by simp [g0, g1, g2, g3, g4, g5, g6, hk0, hk12, hwg, hwg2]; rfl) (by exact specAskOk_spec a) rfl (by simp) (by simp; rfl) rfl) ?_
    refine RegD.addN 3 (by simp [g0, g1, g2, g3, g4, g5, g6, hk0, hk12, hwg, hwg2]; (first | (simp (disch := omega) only [wrapI, ltF, if_false]; done) | (simp (disch := omega) only [wrapI, ltF, if_false]; first | exact ⟨rfl, rfl⟩ | rfl) | skip); (first | done | exact ⟨rfl, rfl⟩ | rfl)) ?_
    refine RegD.cert (Cert.callA rfl (by simp [g0, g1, g2, g3, g4, g5, g6, hk0, hk12, hwg, hwg2]) rfl (by decide) (by simp [g0, g1, g2, g3, g4, g5, g6, hk0, hk12, hwg, hwg2]; exact ⟨rfl, rfl⟩) (by simp [g0, g1, g2, g3, g4, g5, g6, hk0, hk12, hwg, hwg2]; rfl) (by exact l31Told_spec a) rfl (by simp) (by simp; rfl) rfl) ?_
    refine RegD.addN 1 (by simp [g0, g1, g2, g3, g4, g5, g6, hk0, hk12, hwg, hwg2]; (first | (simp (disch := omega) only [wrapI, ltF, if_false]; done) | (simp (disch := omega) only [wrapI, ltF, if_false]; first | exact ⟨rfl, rfl⟩ | rfl) | skip); (first | done | exact ⟨rfl, rfl⟩ | rfl)) ?_
    refine RegD.cert (Cert.neS (askV (toldA a)) (askV a) rfl (by simp (maxSteps := 200000) (disch := first | omega | (simp; done) | fail) [wrapI, leT, leF, ltT, ltF, eqF, nleT, nleF, nltT, nltF, g0, g1, g2, g3, g4, g5, g6, hk0, hk12, hwg, hwg2]) rfl (by decide) (by simp (maxSteps := 200000) (disch := first | omega | (simp; done) | fail) [wrapI, leT, leF, ltT, ltF, eqF, nleT, nleF, nltT, nltF, g0, g1, g2, g3, g4, g5, g6, hk0, hk12, hwg, hwg2]) (by simp (maxSteps := 200000) (disch := first | omega | (simp; done) | fail) [wrapI, leT, leF, ltT, ltF, eqF, nleT, nleF, nltT, nltF, g0, g1, g2, g3, g4, g5, g6, hk0, hk12, hwg, hwg2]) (by kernel_rfl) (fun w => eqAsk_run _ _ 9998 w)) ?_
    refine RegD.addN 4 (by simp [g0, g1, g2, g3, g4, g5, g6, hk0, hk12, hwg, hwg2]; (first | (simp (disch := omega) only [wrapI, ltF, if_false]; done) | (simp (disch := omega) only [wrapI, ltF, if_false]; first | exact ⟨rfl, rfl⟩ | rfl) | skip); (first | done | exact ⟨rfl, rfl⟩ | rfl)) ?_
    refine RegD.cert (Cert.callA rfl (by simp [g0, g1, g2, g3, g4, g5, g6, hk0, hk12, hwg, hwg2]) rfl (by decide) (by simp [g0, g1, g2, g3, g4, g5, g6, hk0, hk12, hwg, hwg2]; exact ⟨rfl, rfl⟩) (by simp [g0, g1, g2, g3, g4, g5, g6, hk0, hk12, hwg, hwg2]; rfl) (by exact l31Plain_spec a.Path (by omega)) rfl (by simp) (by simp; rfl) rfl) ?_
    refine RegD.addN 6 (by simp [g0, g1, g2, g3, g4, g5, g6, hk0, hk12, hwg, hwg2]; (first | (simp (disch := omega) only [wrapI, ltF, if_false]; done) | (simp (disch := omega) only [wrapI, ltF, if_false]; first | exact ⟨rfl, rfl⟩ | rfl) | skip); (first | done | exact ⟨rfl, rfl⟩ | rfl)) ?_
    refine RegD.addN 3 (by simp [g0, g1, g2, g3, g4, g5, g6, hk0, hk12, hwg, hwg2]; (first | (simp (disch := omega) only [wrapI, ltF, if_false]; done) | (simp (disch := omega) only [wrapI, ltF, if_false]; first | exact ⟨rfl, rfl⟩ | rfl) | skip); (first | done | exact ⟨rfl, rfl⟩ | rfl)) ?_
    refine RegD.cert (Cert.callA rfl (by simp [g0, g1, g2, g3, g4, g5, g6, hk0, hk12, hwg, hwg2]) rfl (by decide) (by simp [g0, g1, g2, g3, g4, g5, g6, hk0, hk12, hwg, hwg2]; exact ⟨rfl, rfl⟩) (by simp [g0, g1, g2, g3, g4, g5, g6, hk0, hk12, hwg, hwg2]; rfl) (by exact l31Plain_spec a.To (by omega)) rfl (by simp) (by simp; rfl) rfl) ?_
    refine RegD.addN 6 (by simp [g0, g1, g2, g3, g4, g5, g6, hk0, hk12, hwg, hwg2]; (first | (simp (disch := omega) only [wrapI, ltF, if_false]; done) | (simp (disch := omega) only [wrapI, ltF, if_false]; first | exact ⟨rfl, rfl⟩ | rfl) | skip); (first | done | exact ⟨rfl, rfl⟩ | rfl)) ?_
    refine RegD.cert (Cert.callA rfl (by simp [g0, g1, g2, g3, g4, g5, g6, hk0, hk12, hwg, hwg2]) rfl (by decide) (by simp [g0, g1, g2, g3, g4, g5, g6, hk0, hk12, hwg, hwg2]; exact ⟨rfl, rfl⟩) (by simp [g0, g1, g2, g3, g4, g5, g6, hk0, hk12, hwg, hwg2]; rfl) (by exact l01In_spec _ _ _) rfl (by simp) (by simp; rfl) rfl) ?_
    refine RegD.addN 5 (by simp [g0, g1, g2, g3, g4, g5, g6, hk0, hk12, hwg, hwg2]; (first | (simp (disch := omega) only [wrapI, ltF, if_false]; done) | (simp (disch := omega) only [wrapI, ltF, if_false]; first | exact ⟨rfl, rfl⟩ | rfl) | skip); (first | done | exact ⟨rfl, rfl⟩ | rfl)) ?_
    refine RegD.cert (Cert.callA rfl (by simp [g0, g1, g2, g3, g4, g5, g6, hk0, hk12, hwg, hwg2]) rfl (by decide) (by simp [g0, g1, g2, g3, g4, g5, g6, hk0, hk12, hwg, hwg2]; exact ⟨rfl, rfl⟩) (by simp [g0, g1, g2, g3, g4, g5, g6, hk0, hk12, hwg, hwg2]; rfl) (by exact l01In_spec _ _ _) rfl (by simp) (by simp; rfl) rfl) ?_
    refine RegD.addN 2 (by simp [g0, g1, g2, g3, g4, g5, g6, hk0, hk12, hwg, hwg2]; (first | (simp (disch := omega) only [wrapI, ltF, if_false]; done) | (simp (disch := omega) only [wrapI, ltF, if_false]; first | exact ⟨rfl, rfl⟩ | rfl) | skip); (first | done | exact ⟨rfl, rfl⟩ | rfl)) ?_
    refine RegD.nil ⟨by kernel_rfl, ?_⟩
    refine DW.condF (by simp (maxSteps := 200000) (disch := first | omega | (simp; done) | fail) [wrapI, leT, leF, ltT, ltF, eqF, nleT, nleF, nltT, nltF, g0, g1, g2, g3, g4, g5, g6, hk0, hk12, hwg, hwg2]) ?_
    refine DW.skip ?_
    refine DW.seq ?_
    refine DW.drawn mixed (by kernel_rfl) ?_
    refine RegD.cert (Cert.callHA rfl (by simp) rfl (by decide) (by simp [g0, g1, g2, g3, g4, g5, g6, hk0, hk12, hwg, hwg2]; exact ⟨rfl, rfl⟩) (by simp [g0, g1, g2, g3, g4, g5, g6, hk0, hk12, hwg, hwg2]; rfl) (by exact l31Words_spec) rfl (by simp) (by simp) (by simp; rfl) rfl) ?_
    refine RegD.addN 4 (by simp [g0, g1, g2, g3, g4, g5, g6, hk0, hk12, hwg, hwg2]; (first | (simp (disch := omega) only [wrapI, ltF, if_false]; done) | (simp (disch := omega) only [wrapI, ltF, if_false]; first | exact ⟨rfl, rfl⟩ | rfl) | skip); (first | done | exact ⟨rfl, rfl⟩ | rfl)) ?_
    refine RegD.addN 1 (by simp [g0, g1, g2, g3, g4, g5, g6, hk0, hk12, hwg, hwg2]; (first | (simp (disch := omega) only [wrapI, ltF, if_false]; done) | (simp (disch := omega) only [wrapI, ltF, if_false]; first | exact ⟨rfl, rfl⟩ | rfl) | skip); (first | done | exact ⟨rfl, rfl⟩ | rfl)) ?_
    refine RegD.addN 2 (by simp [g0, g1, g2, g3, g4, g5, g6, hk0, hk12, hwg, hwg2]; (first | (simp (disch := omega) only [wrapI, ltF, if_false]; done) | (simp (disch := omega) only [wrapI, ltF, if_false]; first | exact ⟨rfl, rfl⟩ | rfl) | skip); (first | done | exact ⟨rfl, rfl⟩ | rfl)) ?_
    refine RegD.addN 1 (by simp [g0, g1, g2, g3, g4, g5, g6, hk0, hk12, hwg, hwg2]; (first | (simp (disch := omega) only [wrapI, ltF, if_false]; done) | (simp (disch := omega) only [wrapI, ltF, if_false]; first | exact ⟨rfl, rfl⟩ | rfl) | skip); (first | done | exact ⟨rfl, rfl⟩ | rfl)) ?_
    refine RegD.addN 1 (by simp [g0, g1, g2, g3, g4, g5, g6, hk0, hk12, hwg, hwg2]; (first | (simp (disch := omega) only [wrapI, ltF, if_false]; done) | (simp (disch := omega) only [wrapI, ltF, if_false]; first | exact ⟨rfl, rfl⟩ | rfl) | skip); (first | done | exact ⟨rfl, rfl⟩ | rfl)) ?_
    refine RegD.nil ⟨by kernel_rfl, ?_⟩
    refine DW.seq ?_
    refine DW.seq ?_
    refine DW.reg (by simp (maxSteps := 200000) (disch := first | omega | (simp; done) | fail) [wrapI, leT, leF, ltT, ltF, eqF, nleT, nleF, nltT, nltF, g0, g1, g2, g3, g4, g5, g6, hk0, hk12, hwg, hwg2]; rfl) ?_
    refine DW.block ?_
    refine DW.seq ?_
    refine DW.reg (by simp (maxSteps := 200000) (disch := first | omega | (simp; done) | fail) [wrapI, leT, leF, ltT, ltF, eqF, nleT, nleF, nltT, nltF, g0, g1, g2, g3, g4, g5, g6, hk0, hk12, hwg, hwg2]; rfl) ?_
    refine DW.condT (by simp (maxSteps := 200000) (disch := first | omega | (simp; done) | fail) [wrapI, leT, leF, ltT, ltF, eqF, nleT, nleF, nltT, nltF, g0, g1, g2, g3, g4, g5, g6, hk0, hk12, hwg, hwg2]) ?_
    refine DW.seq ?_
    refine DW.reg (by simp (maxSteps := 200000) (disch := first | omega | (simp; done) | fail) [wrapI, leT, leF, ltT, ltF, eqF, nleT, nleF, nltT, nltF, g0, g1, g2, g3, g4, g5, g6, hk0, hk12, hwg, hwg2]; rfl) ?_
    refine DW.ret ?_
    rw [hL]
    unfold askTail
    simp only [g3p, if_true, if_false]
    simp [Tryd.results11, ByteArray.append_assoc]
end Go.Proofs.YtciieaidbiejmaaDoor.DM
