import Derived.Test.YtciieaidbiejmaaDoorLT4
namespace Go.Proofs.YtciieaidbiejmaaDoor.DM
set_option linter.unusedVariables false
set_option linter.unusedSimpArgs false
set_option maxRecDepth 4000
set_option maxHeartbeats 8000000
theorem rest5 (a : Ask) (e5 : a.Kind = 5) : eqA ⟨0, ByteArray.empty, ByteArray.empty, a.Off, a.Len, a.Text⟩ ⟨0, ByteArray.empty, ByteArray.empty, 0, 0, ByteArray.empty⟩ = eqA (toldA a) a := by
  rw [Bool.eq_iff_iff, eqA_iff, eqA_iff]
  obtain ⟨kd, pt, tp, off, ln, tx⟩ := a
  simp only at e5
  subst e5
  simp [toldA, @eq_comm _ (0 : Int), @eq_comm _ ByteArray.empty]
theorem rest6 (a : Ask) (e6 : a.Kind = 6) : eqA ⟨0, ByteArray.empty, a.To, 0, 0, a.Text⟩ ⟨0, ByteArray.empty, ByteArray.empty, 0, 0, ByteArray.empty⟩ = eqA (toldA a) a := by
  rw [Bool.eq_iff_iff, eqA_iff, eqA_iff]
  obtain ⟨kd, pt, tp, off, ln, tx⟩ := a
  simp only at e6
  subst e6
  simp [toldA, @eq_comm _ (0 : Int), @eq_comm _ ByteArray.empty]
theorem rest7 (a : Ask) (e7 : a.Kind = 7) : eqA ⟨0, ByteArray.empty, a.To, 0, a.Len, ByteArray.empty⟩ ⟨0, ByteArray.empty, ByteArray.empty, 0, 0, ByteArray.empty⟩ = eqA (toldA a) a := by
  rw [Bool.eq_iff_iff, eqA_iff, eqA_iff]
  obtain ⟨kd, pt, tp, off, ln, tx⟩ := a
  simp only at e7
  subst e7
  simp [toldA, @eq_comm _ (0 : Int), @eq_comm _ ByteArray.empty]
theorem rest8 (a : Ask) (e8 : a.Kind = 8) : eqA ⟨0, ByteArray.empty, a.To, a.Off, 0, a.Text⟩ ⟨0, ByteArray.empty, ByteArray.empty, 0, 0, ByteArray.empty⟩ = eqA (toldA a) a := by
  rw [Bool.eq_iff_iff, eqA_iff, eqA_iff]
  obtain ⟨kd, pt, tp, off, ln, tx⟩ := a
  simp only at e8
  subst e8
  simp [toldA, @eq_comm _ (0 : Int), @eq_comm _ ByteArray.empty]
theorem rest0 (a : Ask) (n5 : ¬ a.Kind = 5) (n6 : ¬ a.Kind = 6) (n7 : ¬ a.Kind = 7) (n8 : ¬ a.Kind = 8) : eqA ⟨0, ByteArray.empty, a.To, a.Off, a.Len, a.Text⟩ ⟨0, ByteArray.empty, ByteArray.empty, 0, 0, ByteArray.empty⟩ = eqA (toldA a) a := by
  rw [Bool.eq_iff_iff, eqA_iff, eqA_iff]
  obtain ⟨kd, pt, tp, off, ln, tx⟩ := a
  simp only at n5 n6 n7 n8
  simp [toldA, n5, n6, n7, n8, @eq_comm _ (0 : Int), @eq_comm _ ByteArray.empty]
theorem implAskLine_spec (a : Ask) (hz0 : Row.sz a ≤ 2 ^ 36) (ho : IntOk a.Off) (hl : IntOk a.Len) : Spec Tryd.prog 13 [raAsk a] [none] [ds (askLine a)] [raAsk a] := by
  refine Spec.intro Tryd.func13 rfl rfl Tryd.ntmps13 rfl (by simp) ?_
  have hz := Ask_sz a
  have hsz1 : a.Path.size ≤ 2 ^ 36 := by omega
  have hsz2 : a.To.size ≤ 2 ^ 36 := by omega
  have hsz3 : a.Text.size ≤ 2 ^ 36 := by omega
  have hdo := decB_size a.Off ho.1 ho.2
  have hdl := decB_size a.Len hl.1 hl.2
  have hdx := dashB_size a.Text
  refine DW.seq ?_
  refine DW.reg (by simp (maxSteps := 200000) (disch := first | omega | (simp; done) | fail) [wrapI, leT, leF, ltT, ltF, eqF, nleT, nleF, nltT, nltF]; rfl) ?_
  refine DW.seq ?_
  refine DW.seq ?_
  have hsp : ((askOkB a) = false) ∨ ((askOkB a) = true ∧ (plainP a.Path) = false) ∨ ((askOkB a) = true ∧ (plainP a.Path) = true ∧ (inB a.Off 0 1000000000) = false) ∨ ((askOkB a) = true ∧ (plainP a.Path) = true ∧ (inB a.Off 0 1000000000) = true ∧ (inB a.Len 0 1000000000) = false) ∨ ((askOkB a) = true ∧ (plainP a.Path) = true ∧ (inB a.Off 0 1000000000) = true ∧ (inB a.Len 0 1000000000) = true) := by
    cases (askOkB a) <;> cases (plainP a.Path) <;> cases (inB a.Off 0 1000000000) <;> cases (inB a.Len 0 1000000000) <;> simp
  rcases hsp with g0 | ⟨g0, g1⟩ | ⟨g0, g1, g2⟩ | ⟨g0, g1, g2, g3⟩ | ⟨g0, g1, g2, g3⟩
  · have hres : askLine a = ByteArray.empty := by simp [askLine, g0]
    refine DW.regs ?_
    refine RegO.opN 1 (by simp (maxSteps := 200000) (disch := first | omega | (simp; done) | fail) [wrapI, leT, leF, ltT, ltF, eqF, nleT, nleF, nltT, nltF, g0]; rfl) ?_
    refine RegO.step rfl (OpStep.callA rfl (by simp (maxSteps := 200000) (disch := first | omega | (simp; done) | fail) [wrapI, leT, leF, ltT, ltF, eqF, nleT, nleF, nltT, nltF, g0]; exact ⟨rfl, rfl⟩) (by simp (maxSteps := 200000) (disch := first | omega | (simp; done) | fail) [wrapI, leT, leF, ltT, ltF, eqF, nleT, nleF, nltT, nltF, g0]; rfl) (by exact implAskOk_spec a) (by simp) (by simp (maxSteps := 200000) (disch := first | omega | (simp; done) | fail) [wrapI, leT, leF, ltT, ltF, eqF, nleT, nleF, nltT, nltF, g0]; rfl)) ?_
    refine RegO.opN 19 (by simp (maxSteps := 200000) (disch := first | omega | (simp; done) | fail) [wrapI, leT, leF, ltT, ltF, eqF, nleT, nleF, nltT, nltF, g0]; rfl) ?_
    refine RegO.nil ?_
    refine DW.condT (by simp (maxSteps := 200000) (disch := first | omega | (simp; done) | fail) [wrapI, leT, leF, ltT, ltF, eqF, nleT, nleF, nltT, nltF, g0]) ?_
    refine DW.seq ?_
    refine DW.reg (by simp (maxSteps := 200000) (disch := first | omega | (simp; done) | fail) [wrapI, leT, leF, ltT, ltF, eqF, nleT, nleF, nltT, nltF, g0]; rfl) ?_
    refine DW.ret ?_
    rw [hres]
    simp [Tryd.results13]
  · have hres : askLine a = ByteArray.empty := by simp [askLine, g0, g1]
    refine DW.regs ?_
    refine RegO.opN 1 (by simp (maxSteps := 200000) (disch := first | omega | (simp; done) | fail) [wrapI, leT, leF, ltT, ltF, eqF, nleT, nleF, nltT, nltF, g0, g1]; rfl) ?_
    refine RegO.step rfl (OpStep.callA rfl (by simp (maxSteps := 200000) (disch := first | omega | (simp; done) | fail) [wrapI, leT, leF, ltT, ltF, eqF, nleT, nleF, nltT, nltF, g0, g1]; exact ⟨rfl, rfl⟩) (by simp (maxSteps := 200000) (disch := first | omega | (simp; done) | fail) [wrapI, leT, leF, ltT, ltF, eqF, nleT, nleF, nltT, nltF, g0, g1]; rfl) (by exact implAskOk_spec a) (by simp) (by simp (maxSteps := 200000) (disch := first | omega | (simp; done) | fail) [wrapI, leT, leF, ltT, ltF, eqF, nleT, nleF, nltT, nltF, g0, g1]; rfl)) ?_
    refine RegO.opN 4 (by simp (maxSteps := 200000) (disch := first | omega | (simp; done) | fail) [wrapI, leT, leF, ltT, ltF, eqF, nleT, nleF, nltT, nltF, g0, g1]; rfl) ?_
    refine RegO.stepT (by simp (maxSteps := 200000) (disch := first | omega | (simp; done) | fail) [wrapI, leT, leF, ltT, ltF, eqF, nleT, nleF, nltT, nltF, g0, g1]) (OpStep.callA rfl (by simp (maxSteps := 200000) (disch := first | omega | (simp; done) | fail) [wrapI, leT, leF, ltT, ltF, eqF, nleT, nleF, nltT, nltF, g0, g1]; exact ⟨rfl, rfl⟩) (by simp (maxSteps := 200000) (disch := first | omega | (simp; done) | fail) [wrapI, leT, leF, ltT, ltF, eqF, nleT, nleF, nltT, nltF, g0, g1]; rfl) (by exact isLinePath_spec a.Path (by omega)) (by simp) (by simp (maxSteps := 200000) (disch := first | omega | (simp; done) | fail) [wrapI, leT, leF, ltT, ltF, eqF, nleT, nleF, nltT, nltF, g0, g1]; rfl)) ?_
    refine RegO.opN 14 (by simp (maxSteps := 200000) (disch := first | omega | (simp; done) | fail) [wrapI, leT, leF, ltT, ltF, eqF, nleT, nleF, nltT, nltF, g0, g1]; rfl) ?_
    refine RegO.nil ?_
    refine DW.condT (by simp (maxSteps := 200000) (disch := first | omega | (simp; done) | fail) [wrapI, leT, leF, ltT, ltF, eqF, nleT, nleF, nltT, nltF, g0, g1]) ?_
    refine DW.seq ?_
    refine DW.reg (by simp (maxSteps := 200000) (disch := first | omega | (simp; done) | fail) [wrapI, leT, leF, ltT, ltF, eqF, nleT, nleF, nltT, nltF, g0, g1]; rfl) ?_
    refine DW.ret ?_
    rw [hres]
    simp [Tryd.results13]
  · have hres : askLine a = ByteArray.empty := by simp [askLine, g0, g1, g2]
    refine DW.regs ?_
    refine RegO.opN 1 (by simp (maxSteps := 200000) (disch := first | omega | (simp; done) | fail) [wrapI, leT, leF, ltT, ltF, eqF, nleT, nleF, nltT, nltF, g0, g1, g2]; rfl) ?_
    refine RegO.step rfl (OpStep.callA rfl (by simp (maxSteps := 200000) (disch := first | omega | (simp; done) | fail) [wrapI, leT, leF, ltT, ltF, eqF, nleT, nleF, nltT, nltF, g0, g1, g2]; exact ⟨rfl, rfl⟩) (by simp (maxSteps := 200000) (disch := first | omega | (simp; done) | fail) [wrapI, leT, leF, ltT, ltF, eqF, nleT, nleF, nltT, nltF, g0, g1, g2]; rfl) (by exact implAskOk_spec a) (by simp) (by simp (maxSteps := 200000) (disch := first | omega | (simp; done) | fail) [wrapI, leT, leF, ltT, ltF, eqF, nleT, nleF, nltT, nltF, g0, g1, g2]; rfl)) ?_
    refine RegO.opN 4 (by simp (maxSteps := 200000) (disch := first | omega | (simp; done) | fail) [wrapI, leT, leF, ltT, ltF, eqF, nleT, nleF, nltT, nltF, g0, g1, g2]; rfl) ?_
    refine RegO.stepT (by simp (maxSteps := 200000) (disch := first | omega | (simp; done) | fail) [wrapI, leT, leF, ltT, ltF, eqF, nleT, nleF, nltT, nltF, g0, g1, g2]) (OpStep.callA rfl (by simp (maxSteps := 200000) (disch := first | omega | (simp; done) | fail) [wrapI, leT, leF, ltT, ltF, eqF, nleT, nleF, nltT, nltF, g0, g1, g2]; exact ⟨rfl, rfl⟩) (by simp (maxSteps := 200000) (disch := first | omega | (simp; done) | fail) [wrapI, leT, leF, ltT, ltF, eqF, nleT, nleF, nltT, nltF, g0, g1, g2]; rfl) (by exact isLinePath_spec a.Path (by omega)) (by simp) (by simp (maxSteps := 200000) (disch := first | omega | (simp; done) | fail) [wrapI, leT, leF, ltT, ltF, eqF, nleT, nleF, nltT, nltF, g0, g1, g2]; rfl)) ?_
    refine RegO.opN 5 (by simp (maxSteps := 200000) (disch := first | omega | (simp; done) | fail) [wrapI, leT, leF, ltT, ltF, eqF, nleT, nleF, nltT, nltF, g0, g1, g2]; rfl) ?_
    refine RegO.stepT (by simp (maxSteps := 200000) (disch := first | omega | (simp; done) | fail) [wrapI, leT, leF, ltT, ltF, eqF, nleT, nleF, nltT, nltF, g0, g1, g2]) (OpStep.callA rfl (by simp (maxSteps := 200000) (disch := first | omega | (simp; done) | fail) [wrapI, leT, leF, ltT, ltF, eqF, nleT, nleF, nltT, nltF, g0, g1, g2]; exact ⟨rfl, rfl⟩) (by simp (maxSteps := 200000) (disch := first | omega | (simp; done) | fail) [wrapI, leT, leF, ltT, ltF, eqF, nleT, nleF, nltT, nltF, g0, g1, g2]; rfl) (by exact within_spec _ _ _) (by simp) (by simp (maxSteps := 200000) (disch := first | omega | (simp; done) | fail) [wrapI, leT, leF, ltT, ltF, eqF, nleT, nleF, nltT, nltF, g0, g1, g2]; rfl)) ?_
    refine RegO.opN 8 (by simp (maxSteps := 200000) (disch := first | omega | (simp; done) | fail) [wrapI, leT, leF, ltT, ltF, eqF, nleT, nleF, nltT, nltF, g0, g1, g2]; rfl) ?_
    refine RegO.nil ?_
    refine DW.condT (by simp (maxSteps := 200000) (disch := first | omega | (simp; done) | fail) [wrapI, leT, leF, ltT, ltF, eqF, nleT, nleF, nltT, nltF, g0, g1, g2]) ?_
    refine DW.seq ?_
    refine DW.reg (by simp (maxSteps := 200000) (disch := first | omega | (simp; done) | fail) [wrapI, leT, leF, ltT, ltF, eqF, nleT, nleF, nltT, nltF, g0, g1, g2]; rfl) ?_
    refine DW.ret ?_
    rw [hres]
    simp [Tryd.results13]
  · have hres : askLine a = ByteArray.empty := by simp [askLine, g0, g1, g2, g3]
    refine DW.regs ?_
    refine RegO.opN 1 (by simp (maxSteps := 200000) (disch := first | omega | (simp; done) | fail) [wrapI, leT, leF, ltT, ltF, eqF, nleT, nleF, nltT, nltF, g0, g1, g2, g3]; rfl) ?_
    refine RegO.step rfl (OpStep.callA rfl (by simp (maxSteps := 200000) (disch := first | omega | (simp; done) | fail) [wrapI, leT, leF, ltT, ltF, eqF, nleT, nleF, nltT, nltF, g0, g1, g2, g3]; exact ⟨rfl, rfl⟩) (by simp (maxSteps := 200000) (disch := first | omega | (simp; done) | fail) [wrapI, leT, leF, ltT, ltF, eqF, nleT, nleF, nltT, nltF, g0, g1, g2, g3]; rfl) (by exact implAskOk_spec a) (by simp) (by simp (maxSteps := 200000) (disch := first | omega | (simp; done) | fail) [wrapI, leT, leF, ltT, ltF, eqF, nleT, nleF, nltT, nltF, g0, g1, g2, g3]; rfl)) ?_
    refine RegO.opN 4 (by simp (maxSteps := 200000) (disch := first | omega | (simp; done) | fail) [wrapI, leT, leF, ltT, ltF, eqF, nleT, nleF, nltT, nltF, g0, g1, g2, g3]; rfl) ?_
    refine RegO.stepT (by simp (maxSteps := 200000) (disch := first | omega | (simp; done) | fail) [wrapI, leT, leF, ltT, ltF, eqF, nleT, nleF, nltT, nltF, g0, g1, g2, g3]) (OpStep.callA rfl (by simp (maxSteps := 200000) (disch := first | omega | (simp; done) | fail) [wrapI, leT, leF, ltT, ltF, eqF, nleT, nleF, nltT, nltF, g0, g1, g2, g3]; exact ⟨rfl, rfl⟩) (by simp (maxSteps := 200000) (disch := first | omega | (simp; done) | fail) [wrapI, leT, leF, ltT, ltF, eqF, nleT, nleF, nltT, nltF, g0, g1, g2, g3]; rfl) (by exact isLinePath_spec a.Path (by omega)) (by simp) (by simp (maxSteps := 200000) (disch := first | omega | (simp; done) | fail) [wrapI, leT, leF, ltT, ltF, eqF, nleT, nleF, nltT, nltF, g0, g1, g2, g3]; rfl)) ?_
    refine RegO.opN 5 (by simp (maxSteps := 200000) (disch := first | omega | (simp; done) | fail) [wrapI, leT, leF, ltT, ltF, eqF, nleT, nleF, nltT, nltF, g0, g1, g2, g3]; rfl) ?_
    refine RegO.stepT (by simp (maxSteps := 200000) (disch := first | omega | (simp; done) | fail) [wrapI, leT, leF, ltT, ltF, eqF, nleT, nleF, nltT, nltF, g0, g1, g2, g3]) (OpStep.callA rfl (by simp (maxSteps := 200000) (disch := first | omega | (simp; done) | fail) [wrapI, leT, leF, ltT, ltF, eqF, nleT, nleF, nltT, nltF, g0, g1, g2, g3]; exact ⟨rfl, rfl⟩) (by simp (maxSteps := 200000) (disch := first | omega | (simp; done) | fail) [wrapI, leT, leF, ltT, ltF, eqF, nleT, nleF, nltT, nltF, g0, g1, g2, g3]; rfl) (by exact within_spec _ _ _) (by simp) (by simp (maxSteps := 200000) (disch := first | omega | (simp; done) | fail) [wrapI, leT, leF, ltT, ltF, eqF, nleT, nleF, nltT, nltF, g0, g1, g2, g3]; rfl)) ?_
    refine RegO.opN 5 (by simp (maxSteps := 200000) (disch := first | omega | (simp; done) | fail) [wrapI, leT, leF, ltT, ltF, eqF, nleT, nleF, nltT, nltF, g0, g1, g2, g3]; rfl) ?_
    refine RegO.stepT (by simp (maxSteps := 200000) (disch := first | omega | (simp; done) | fail) [wrapI, leT, leF, ltT, ltF, eqF, nleT, nleF, nltT, nltF, g0, g1, g2, g3]) (OpStep.callA rfl (by simp (maxSteps := 200000) (disch := first | omega | (simp; done) | fail) [wrapI, leT, leF, ltT, ltF, eqF, nleT, nleF, nltT, nltF, g0, g1, g2, g3]; exact ⟨rfl, rfl⟩) (by simp (maxSteps := 200000) (disch := first | omega | (simp; done) | fail) [wrapI, leT, leF, ltT, ltF, eqF, nleT, nleF, nltT, nltF, g0, g1, g2, g3]; rfl) (by exact within_spec _ _ _) (by simp) (by simp (maxSteps := 200000) (disch := first | omega | (simp; done) | fail) [wrapI, leT, leF, ltT, ltF, eqF, nleT, nleF, nltT, nltF, g0, g1, g2, g3]; rfl)) ?_
    refine RegO.opN 2 (by simp (maxSteps := 200000) (disch := first | omega | (simp; done) | fail) [wrapI, leT, leF, ltT, ltF, eqF, nleT, nleF, nltT, nltF, g0, g1, g2, g3]; rfl) ?_
    refine RegO.nil ?_
    refine DW.condT (by simp (maxSteps := 200000) (disch := first | omega | (simp; done) | fail) [wrapI, leT, leF, ltT, ltF, eqF, nleT, nleF, nltT, nltF, g0, g1, g2, g3]) ?_
    refine DW.seq ?_
    refine DW.reg (by simp (maxSteps := 200000) (disch := first | omega | (simp; done) | fail) [wrapI, leT, leF, ltT, ltF, eqF, nleT, nleF, nltT, nltF, g0, g1, g2, g3]; rfl) ?_
    refine DW.ret ?_
    rw [hres]
    simp [Tryd.results13]
  · have hk := g0
    simp only [askOkB, Bool.and_eq_true, decide_eq_true_eq, inB_iff] at hk
    obtain ⟨⟨hk1, hk11⟩, htx⟩ := hk
    have hk0 : 0 ≤ a.Kind := by omega
    have hk12 : a.Kind < 12 := by omega
    obtain ⟨hwg, hws⟩ := word_get a.Kind hk1 hk11
    have hwg2 : ∀ h : a.Kind.toNat < (rD askW).length, (rD askW)[a.Kind.toNat]'h = T.sc (.string (wordAt a.Kind)) := fun h => by rw [List.getElem?_eq_getElem h] at hwg; exact Option.some.inj hwg
    generalize hW : wordAt a.Kind = W at hwg hwg2 hws
    have htx2 : a.Text.size ≤ 20000 := by omega
    refine DW.regs ?_
    refine RegO.opN 1 (by simp (maxSteps := 200000) (disch := first | omega | (simp; done) | fail) [wrapI, leT, leF, ltT, ltF, eqF, nleT, nleF, nltT, nltF, g0, g1, g2, g3, hk0, hk12, hwg, hwg2]; rfl) ?_
    refine RegO.step rfl (OpStep.callA rfl (by simp (maxSteps := 200000) (disch := first | omega | (simp; done) | fail) [wrapI, leT, leF, ltT, ltF, eqF, nleT, nleF, nltT, nltF, g0, g1, g2, g3, hk0, hk12, hwg, hwg2]; exact ⟨rfl, rfl⟩) (by simp (maxSteps := 200000) (disch := first | omega | (simp; done) | fail) [wrapI, leT, leF, ltT, ltF, eqF, nleT, nleF, nltT, nltF, g0, g1, g2, g3, hk0, hk12, hwg, hwg2]; rfl) (by exact implAskOk_spec a) (by simp) (by simp (maxSteps := 200000) (disch := first | omega | (simp; done) | fail) [wrapI, leT, leF, ltT, ltF, eqF, nleT, nleF, nltT, nltF, g0, g1, g2, g3, hk0, hk12, hwg, hwg2]; rfl)) ?_
    refine RegO.opN 4 (by simp (maxSteps := 200000) (disch := first | omega | (simp; done) | fail) [wrapI, leT, leF, ltT, ltF, eqF, nleT, nleF, nltT, nltF, g0, g1, g2, g3, hk0, hk12, hwg, hwg2]; rfl) ?_
    refine RegO.stepT (by simp (maxSteps := 200000) (disch := first | omega | (simp; done) | fail) [wrapI, leT, leF, ltT, ltF, eqF, nleT, nleF, nltT, nltF, g0, g1, g2, g3, hk0, hk12, hwg, hwg2]) (OpStep.callA rfl (by simp (maxSteps := 200000) (disch := first | omega | (simp; done) | fail) [wrapI, leT, leF, ltT, ltF, eqF, nleT, nleF, nltT, nltF, g0, g1, g2, g3, hk0, hk12, hwg, hwg2]; exact ⟨rfl, rfl⟩) (by simp (maxSteps := 200000) (disch := first | omega | (simp; done) | fail) [wrapI, leT, leF, ltT, ltF, eqF, nleT, nleF, nltT, nltF, g0, g1, g2, g3, hk0, hk12, hwg, hwg2]; rfl) (by exact isLinePath_spec a.Path (by omega)) (by simp) (by simp (maxSteps := 200000) (disch := first | omega | (simp; done) | fail) [wrapI, leT, leF, ltT, ltF, eqF, nleT, nleF, nltT, nltF, g0, g1, g2, g3, hk0, hk12, hwg, hwg2]; rfl)) ?_
    refine RegO.opN 5 (by simp (maxSteps := 200000) (disch := first | omega | (simp; done) | fail) [wrapI, leT, leF, ltT, ltF, eqF, nleT, nleF, nltT, nltF, g0, g1, g2, g3, hk0, hk12, hwg, hwg2]; rfl) ?_
    refine RegO.stepT (by simp (maxSteps := 200000) (disch := first | omega | (simp; done) | fail) [wrapI, leT, leF, ltT, ltF, eqF, nleT, nleF, nltT, nltF, g0, g1, g2, g3, hk0, hk12, hwg, hwg2]) (OpStep.callA rfl (by simp (maxSteps := 200000) (disch := first | omega | (simp; done) | fail) [wrapI, leT, leF, ltT, ltF, eqF, nleT, nleF, nltT, nltF, g0, g1, g2, g3, hk0, hk12, hwg, hwg2]; exact ⟨rfl, rfl⟩) (by simp (maxSteps := 200000) (disch := first | omega | (simp; done) | fail) [wrapI, leT, leF, ltT, ltF, eqF, nleT, nleF, nltT, nltF, g0, g1, g2, g3, hk0, hk12, hwg, hwg2]; rfl) (by exact within_spec _ _ _) (by simp) (by simp (maxSteps := 200000) (disch := first | omega | (simp; done) | fail) [wrapI, leT, leF, ltT, ltF, eqF, nleT, nleF, nltT, nltF, g0, g1, g2, g3, hk0, hk12, hwg, hwg2]; rfl)) ?_
    refine RegO.opN 5 (by simp (maxSteps := 200000) (disch := first | omega | (simp; done) | fail) [wrapI, leT, leF, ltT, ltF, eqF, nleT, nleF, nltT, nltF, g0, g1, g2, g3, hk0, hk12, hwg, hwg2]; rfl) ?_
    refine RegO.stepT (by simp (maxSteps := 200000) (disch := first | omega | (simp; done) | fail) [wrapI, leT, leF, ltT, ltF, eqF, nleT, nleF, nltT, nltF, g0, g1, g2, g3, hk0, hk12, hwg, hwg2]) (OpStep.callA rfl (by simp (maxSteps := 200000) (disch := first | omega | (simp; done) | fail) [wrapI, leT, leF, ltT, ltF, eqF, nleT, nleF, nltT, nltF, g0, g1, g2, g3, hk0, hk12, hwg, hwg2]; exact ⟨rfl, rfl⟩) (by simp (maxSteps := 200000) (disch := first | omega | (simp; done) | fail) [wrapI, leT, leF, ltT, ltF, eqF, nleT, nleF, nltT, nltF, g0, g1, g2, g3, hk0, hk12, hwg, hwg2]; rfl) (by exact within_spec _ _ _) (by simp) (by simp (maxSteps := 200000) (disch := first | omega | (simp; done) | fail) [wrapI, leT, leF, ltT, ltF, eqF, nleT, nleF, nltT, nltF, g0, g1, g2, g3, hk0, hk12, hwg, hwg2]; rfl)) ?_
    refine RegO.opN 2 (by simp (maxSteps := 200000) (disch := first | omega | (simp; done) | fail) [wrapI, leT, leF, ltT, ltF, eqF, nleT, nleF, nltT, nltF, g0, g1, g2, g3, hk0, hk12, hwg, hwg2]; rfl) ?_
    refine RegO.nil ?_
    refine DW.condF (by simp (maxSteps := 200000) (disch := first | omega | (simp; done) | fail) [wrapI, leT, leF, ltT, ltF, eqF, nleT, nleF, nltT, nltF, g0, g1, g2, g3, hk0, hk12, hwg, hwg2]) ?_
    refine DW.skip ?_
    refine DW.seq ?_
    refine DW.drawn mixed (by kernel_rfl) ?_
    refine RegD.cert (Cert.callHA rfl (by simp) rfl (by decide) (by simp [g0, g1, g2, g3, hk0, hk12, hwg, hwg2]; exact ⟨rfl, rfl⟩) (by simp [g0, g1, g2, g3, hk0, hk12, hwg, hwg2]; rfl) (by exact askWords_spec) rfl (by simp) (by simp) (by simp; rfl) rfl) ?_
    refine RegD.addN 4 (by simp [g0, g1, g2, g3, hk0, hk12, hwg, hwg2]; (first | (simp (disch := omega) only [wrapI, ltF, if_false]; done) | (simp (disch := omega) only [wrapI, ltF, if_false]; first | exact ⟨rfl, rfl⟩ | rfl) | skip); (first | done | exact ⟨rfl, rfl⟩ | rfl)) ?_
    refine RegD.addN 1 (by simp [g0, g1, g2, g3, hk0, hk12, hwg, hwg2]; (first | (simp (disch := omega) only [wrapI, ltF, if_false]; done) | (simp (disch := omega) only [wrapI, ltF, if_false]; first | exact ⟨rfl, rfl⟩ | rfl) | skip); (first | done | exact ⟨rfl, rfl⟩ | rfl)) ?_
    refine RegD.addN 2 (by simp [g0, g1, g2, g3, hk0, hk12, hwg, hwg2]; (first | (simp (disch := omega) only [wrapI, ltF, if_false]; done) | (simp (disch := omega) only [wrapI, ltF, if_false]; first | exact ⟨rfl, rfl⟩ | rfl) | skip); (first | done | exact ⟨rfl, rfl⟩ | rfl)) ?_
    refine RegD.addN 1 (by simp [g0, g1, g2, g3, hk0, hk12, hwg, hwg2]; (first | (simp (disch := omega) only [wrapI, ltF, if_false]; done) | (simp (disch := omega) only [wrapI, ltF, if_false]; first | exact ⟨rfl, rfl⟩ | rfl) | skip); (first | done | exact ⟨rfl, rfl⟩ | rfl)) ?_
    refine RegD.addN 1 (by simp [g0, g1, g2, g3, hk0, hk12, hwg, hwg2]; (first | (simp (disch := omega) only [wrapI, ltF, if_false]; done) | (simp (disch := omega) only [wrapI, ltF, if_false]; first | exact ⟨rfl, rfl⟩ | rfl) | skip); (first | done | exact ⟨rfl, rfl⟩ | rfl)) ?_
    refine RegD.nil ⟨by kernel_rfl, ?_⟩
    refine DW.norm [(1, _), (3, _)] [(1, _)] [] (by simp [g0, g1, g2, g3, hk0, hk12, hwg, hwg2]; exact ⟨rfl, rfl⟩) (by simp [g0, g1, g2, g3, hk0, hk12, hwg, hwg2]; rfl) (by simp [g0, g1, g2, g3, hk0, hk12, hwg, hwg2]) (by rfl) ?_
    refine DW.seq ?_
    refine DW.reg (by simp [g0, g1, g2, g3, hk0, hk12, hwg, hwg2]; rfl) ?_
    refine DW.norm [(1, _), (3, _), (4, _)] [(1, _), (4, _)] [] (by simp [g0, g1, g2, g3, hk0, hk12, hwg, hwg2]; exact ⟨rfl, rfl, rfl⟩) (by simp [g0, g1, g2, g3, hk0, hk12, hwg, hwg2]; exact ⟨rfl, rfl⟩) (by simp [g0, g1, g2, g3, hk0, hk12, hwg, hwg2]) (by rfl) ?_
    refine DW.seq ?_
    refine DW.reg (by simp [g0, g1, g2, g3, hk0, hk12, hwg, hwg2]; rfl) ?_
    refine DW.norm [(1, _), (3, _), (4, _)] [(1, _), (4, _)] [] (by simp [g0, g1, g2, g3, hk0, hk12, hwg, hwg2]; exact ⟨rfl, rfl, rfl⟩) (by simp [g0, g1, g2, g3, hk0, hk12, hwg, hwg2]; exact ⟨rfl, rfl⟩) (by simp [g0, g1, g2, g3, hk0, hk12, hwg, hwg2]) (by rfl) ?_
    refine DW.seq ?_
    refine DW.seq ?_
    refine DW.reg (by simp (maxSteps := 200000) (disch := first | omega | (simp; done) | fail) [wrapI, leT, leF, ltT, ltF, eqF, nleT, nleF, nltT, nltF, g0, g1, g2, g3, hk0, hk12, hwg, hwg2]; rfl) ?_
    refine DW.block ?_
    refine DW.seq ?_
    refine DW.reg (by simp (maxSteps := 200000) (disch := first | omega | (simp; done) | fail) [wrapI, leT, leF, ltT, ltF, eqF, nleT, nleF, nltT, nltF, g0, g1, g2, g3, hk0, hk12, hwg, hwg2]; rfl) ?_
    refine DW.condB (by simp (maxSteps := 200000) (disch := first | omega | (simp; done) | fail) [wrapI, leT, leF, ltT, ltF, eqF, nleT, nleF, nltT, nltF, g0, g1, g2, g3, hk0, hk12, hwg, hwg2]; exact rfl) (fun hc1 => ?_) (fun hc1 => ?_)
    · have e5 : a.Kind = 5 := by simpa using hc1
      refine DW.seq ?_
      refine DW.seq ?_
      refine DW.regs ?_
      refine RegO.opN 2 (by simp (maxSteps := 200000) (disch := first | omega | (simp; done) | fail) [wrapI, leT, leF, ltT, ltF, eqF, nleT, nleF, nltT, nltF, g0, g1, g2, g3, hk0, hk12, hwg, hwg2, e5]; rfl) ?_
      refine RegO.step rfl (OpStep.callA rfl (by simp (maxSteps := 200000) (disch := first | omega | (simp; done) | fail) [wrapI, leT, leF, ltT, ltF, eqF, nleT, nleF, nltT, nltF, g0, g1, g2, g3, hk0, hk12, hwg, hwg2, e5]; exact ⟨rfl, rfl⟩) (by simp (maxSteps := 200000) (disch := first | omega | (simp; done) | fail) [wrapI, leT, leF, ltT, ltF, eqF, nleT, nleF, nltT, nltF, g0, g1, g2, g3, hk0, hk12, hwg, hwg2, e5]; rfl) (by exact isLinePath_spec a.To (by omega)) (by simp) (by simp (maxSteps := 200000) (disch := first | omega | (simp; done) | fail) [wrapI, leT, leF, ltT, ltF, eqF, nleT, nleF, nltT, nltF, g0, g1, g2, g3, hk0, hk12, hwg, hwg2, e5]; rfl)) ?_
      refine RegO.opN 1 (by simp (maxSteps := 200000) (disch := first | omega | (simp; done) | fail) [wrapI, leT, leF, ltT, ltF, eqF, nleT, nleF, nltT, nltF, g0, g1, g2, g3, hk0, hk12, hwg, hwg2, e5]; rfl) ?_
      refine RegO.nil ?_
      refine DW.condB (by simp (maxSteps := 200000) (disch := first | omega | (simp; done) | fail) [wrapI, leT, leF, ltT, ltF, eqF, nleT, nleF, nltT, nltF, g0, g1, g2, g3, hk0, hk12, hwg, hwg2, e5]; exact rfl) (fun hc2 => ?_) (fun hc2 => ?_)
      · have hpt : plainP a.To = false := by simpa using hc2
        have hres : askLine a = ByteArray.empty := by simp [askLine, e5, hpt]
        refine DW.seq ?_
        refine DW.reg (by simp (maxSteps := 200000) (disch := first | omega | (simp; done) | fail) [wrapI, leT, leF, ltT, ltF, eqF, nleT, nleF, nltT, nltF, g0, g1, g2, g3, hk0, hk12, hwg, hwg2, e5, hpt]; rfl) ?_
        refine DW.ret ?_
        rw [hres]
        simp [Tryd.results13]
      · have hpt : plainP a.To = true := by simpa using hc2
        refine DW.skip ?_
        refine DW.seq ?_
        refine DW.reg (by simp (maxSteps := 200000) (disch := first | omega | (simp; done) | fail) [wrapI, leT, leF, ltT, ltF, eqF, nleT, nleF, nltT, nltF, g0, g1, g2, g3, hk0, hk12, hwg, hwg2, e5, hpt]; rfl) ?_
        refine DW.reg (by simp [g0, g1, g2, g3, hk0, hk12, hwg, hwg2, e5, hpt]; rfl) ?_
        refine DW.seq ?_
        refine DW.seq ?_
        refine DW.regs ?_
        refine RegO.opN 2 (by simp (maxSteps := 200000) (disch := first | omega | (simp; done) | fail) [wrapI, leT, leF, ltT, ltF, eqF, nleT, nleF, nltT, nltF, g0, g1, g2, g3, hk0, hk12, hwg, hwg2, e5, hpt]; rfl) ?_
        refine RegO.step rfl (OpStep.neS (askV ⟨0, ByteArray.empty, ByteArray.empty, a.Off, a.Len, a.Text⟩) (askV ⟨0, ByteArray.empty, ByteArray.empty, 0, 0, ByteArray.empty⟩) rfl rfl (by decide) (by simp) (by simp) (by kernel_rfl) (fun w => eqAsk_run _ _ 9998 w)) ?_
        refine RegO.nil ?_
        refine DW.condB (by simp (maxSteps := 200000) (disch := first | omega | (simp; done) | fail) [wrapI, leT, leF, ltT, ltF, eqF, nleT, nleF, nltT, nltF, g0, g1, g2, g3, hk0, hk12, hwg, hwg2, e5, hpt]; exact rfl) (fun hc3 => ?_) (fun hc3 => ?_)
        · have hq : eqA ⟨0, ByteArray.empty, ByteArray.empty, a.Off, a.Len, a.Text⟩ ⟨0, ByteArray.empty, ByteArray.empty, 0, 0, ByteArray.empty⟩ = eqA (toldA a) a := rest5 a e5
          have ht : eqA (toldA a) a = false := by rw [← hq]; simpa using hc3
          have hres : askLine a = ByteArray.empty := by simp [askLine, ht]
          refine DW.seq ?_
          refine DW.reg (by simp (maxSteps := 200000) (disch := first | omega | (simp; done) | fail) [wrapI, leT, leF, ltT, ltF, eqF, nleT, nleF, nltT, nltF, g0, g1, g2, g3, hk0, hk12, hwg, hwg2, e5, hpt]; rfl) ?_
          refine DW.ret ?_
          rw [hres]
          simp [Tryd.results13]
        · have hq : eqA ⟨0, ByteArray.empty, ByteArray.empty, a.Off, a.Len, a.Text⟩ ⟨0, ByteArray.empty, ByteArray.empty, 0, 0, ByteArray.empty⟩ = eqA (toldA a) a := rest5 a e5
          have ht : eqA (toldA a) a = true := by rw [← hq]; simpa using hc3
          have hL : askLine a = W ++ (⟨#[32]⟩ ++ (a.Path ++ askTail a)) := by
            rw [← hW]
            unfold askLine
            rw [if_pos ⟨g0, ht, g1, fun _ => hpt, g2, g3⟩]
          refine DW.skip ?_
          refine DW.seq ?_
          refine DW.reg (by simp (maxSteps := 200000) (disch := first | omega | (simp; done) | fail) [wrapI, leT, leF, ltT, ltF, eqF, nleT, nleF, nltT, nltF, g0, g1, g2, g3, hk0, hk12, hwg, hwg2, e5, hpt]; rfl) ?_
          refine DW.ret ?_
          rw [hL]
          unfold askTail
          simp only [e5, if_true, if_false]
          simp [Tryd.results13, ByteArray.append_assoc]
    · have n5 : ¬ a.Kind = 5 := by simpa using hc1
      refine DW.seq ?_
      refine DW.reg (by simp (maxSteps := 200000) (disch := first | omega | (simp; done) | fail) [wrapI, leT, leF, ltT, ltF, eqF, nleT, nleF, nltT, nltF, g0, g1, g2, g3, hk0, hk12, hwg, hwg2, n5]; rfl) ?_
      refine DW.condB (by simp (maxSteps := 200000) (disch := first | omega | (simp; done) | fail) [wrapI, leT, leF, ltT, ltF, eqF, nleT, nleF, nltT, nltF, g0, g1, g2, g3, hk0, hk12, hwg, hwg2, n5]; exact rfl) (fun hc4 => ?_) (fun hc4 => ?_)
      · have e6 : a.Kind = 6 := by simpa using hc4
        refine DW.seq ?_
        refine DW.drawn mixed (by kernel_rfl) ?_
        refine RegD.addN 3 (by simp [g0, g1, g2, g3, hk0, hk12, hwg, hwg2, n5, e6]; (first | (simp (disch := omega) only [wrapI, ltF, if_false]; done) | (simp (disch := omega) only [wrapI, ltF, if_false]; first | exact ⟨rfl, rfl⟩ | rfl) | skip); (first | done | exact ⟨rfl, rfl⟩ | rfl)) ?_
        refine RegD.cert (Cert.callA rfl (by simp) rfl (by decide) (by simp [g0, g1, g2, g3, hk0, hk12, hwg, hwg2, n5, e6]; exact ⟨rfl, rfl⟩) (by simp [g0, g1, g2, g3, hk0, hk12, hwg, hwg2, n5, e6]; rfl) (by exact implDecimal_spec a.Off ho.1 ho.2) rfl (by simp) (by simp; rfl) rfl) ?_
        refine RegD.addN 1 (by simp [g0, g1, g2, g3, hk0, hk12, hwg, hwg2, n5, e6]; (first | (simp (disch := omega) only [wrapI, ltF, if_false]; done) | (simp (disch := omega) only [wrapI, ltF, if_false]; first | exact ⟨rfl, rfl⟩ | rfl) | skip); (first | done | exact ⟨rfl, rfl⟩ | rfl)) ?_
        refine RegD.addN 1 (by simp [g0, g1, g2, g3, hk0, hk12, hwg, hwg2, n5, e6]; (first | (simp (disch := omega) only [wrapI, ltF, if_false]; done) | (simp (disch := omega) only [wrapI, ltF, if_false]; first | exact ⟨rfl, rfl⟩ | rfl) | skip); (first | done | exact ⟨rfl, rfl⟩ | rfl)) ?_
        refine RegD.addN 2 (by simp [g0, g1, g2, g3, hk0, hk12, hwg, hwg2, n5, e6]; (first | (simp (disch := omega) only [wrapI, ltF, if_false]; done) | (simp (disch := omega) only [wrapI, ltF, if_false]; first | exact ⟨rfl, rfl⟩ | rfl) | skip); (first | done | exact ⟨rfl, rfl⟩ | rfl)) ?_
        refine RegD.cert (Cert.callA rfl (by simp) rfl (by decide) (by simp [g0, g1, g2, g3, hk0, hk12, hwg, hwg2, n5, e6]; exact ⟨rfl, rfl⟩) (by simp [g0, g1, g2, g3, hk0, hk12, hwg, hwg2, n5, e6]; rfl) (by exact implDecimal_spec a.Len hl.1 hl.2) rfl (by simp) (by simp; rfl) rfl) ?_
        refine RegD.addN 1 (by simp [g0, g1, g2, g3, hk0, hk12, hwg, hwg2, n5, e6]; (first | (simp (disch := omega) only [wrapI, ltF, if_false]; done) | (simp (disch := omega) only [wrapI, ltF, if_false]; first | exact ⟨rfl, rfl⟩ | rfl) | skip); (first | done | exact ⟨rfl, rfl⟩ | rfl)) ?_
        refine RegD.addN 1 (by simp [g0, g1, g2, g3, hk0, hk12, hwg, hwg2, n5, e6]; (first | (simp (disch := omega) only [wrapI, ltF, if_false]; done) | (simp (disch := omega) only [wrapI, ltF, if_false]; first | exact ⟨rfl, rfl⟩ | rfl) | skip); (first | done | exact ⟨rfl, rfl⟩ | rfl)) ?_
        refine RegD.addN 1 (by simp [g0, g1, g2, g3, hk0, hk12, hwg, hwg2, n5, e6]; (first | (simp (disch := omega) only [wrapI, ltF, if_false]; done) | (simp (disch := omega) only [wrapI, ltF, if_false]; first | exact ⟨rfl, rfl⟩ | rfl) | skip); (first | done | exact ⟨rfl, rfl⟩ | rfl)) ?_
        refine RegD.nil ⟨by kernel_rfl, ?_⟩
        refine DW.reg (by simp [g0, g1, g2, g3, hk0, hk12, hwg, hwg2, n5, e6]; rfl) ?_
        refine DW.seq ?_
        refine DW.seq ?_
        refine DW.regs ?_
        refine RegO.opN 2 (by simp (maxSteps := 200000) (disch := first | omega | (simp; done) | fail) [wrapI, leT, leF, ltT, ltF, eqF, nleT, nleF, nltT, nltF, g0, g1, g2, g3, hk0, hk12, hwg, hwg2, n5, e6]; rfl) ?_
        refine RegO.step rfl (OpStep.neS (askV ⟨0, ByteArray.empty, a.To, 0, 0, a.Text⟩) (askV ⟨0, ByteArray.empty, ByteArray.empty, 0, 0, ByteArray.empty⟩) rfl rfl (by decide) (by simp) (by simp) (by kernel_rfl) (fun w => eqAsk_run _ _ 9998 w)) ?_
        refine RegO.nil ?_
        refine DW.condB (by simp (maxSteps := 200000) (disch := first | omega | (simp; done) | fail) [wrapI, leT, leF, ltT, ltF, eqF, nleT, nleF, nltT, nltF, g0, g1, g2, g3, hk0, hk12, hwg, hwg2, n5, e6]; exact rfl) (fun hc5 => ?_) (fun hc5 => ?_)
        · have hq : eqA ⟨0, ByteArray.empty, a.To, 0, 0, a.Text⟩ ⟨0, ByteArray.empty, ByteArray.empty, 0, 0, ByteArray.empty⟩ = eqA (toldA a) a := rest6 a e6
          have ht : eqA (toldA a) a = false := by rw [← hq]; simpa using hc5
          have hres : askLine a = ByteArray.empty := by simp [askLine, ht]
          refine DW.seq ?_
          refine DW.reg (by simp (maxSteps := 200000) (disch := first | omega | (simp; done) | fail) [wrapI, leT, leF, ltT, ltF, eqF, nleT, nleF, nltT, nltF, g0, g1, g2, g3, hk0, hk12, hwg, hwg2, n5, e6]; rfl) ?_
          refine DW.ret ?_
          rw [hres]
          simp [Tryd.results13]
        · have hq : eqA ⟨0, ByteArray.empty, a.To, 0, 0, a.Text⟩ ⟨0, ByteArray.empty, ByteArray.empty, 0, 0, ByteArray.empty⟩ = eqA (toldA a) a := rest6 a e6
          have ht : eqA (toldA a) a = true := by rw [← hq]; simpa using hc5
          have hL : askLine a = W ++ (⟨#[32]⟩ ++ (a.Path ++ askTail a)) := by
            rw [← hW]
            unfold askLine
            rw [if_pos ⟨g0, ht, g1, fun h => absurd h n5, g2, g3⟩]
          refine DW.skip ?_
          refine DW.seq ?_
          refine DW.reg (by simp (maxSteps := 200000) (disch := first | omega | (simp; done) | fail) [wrapI, leT, leF, ltT, ltF, eqF, nleT, nleF, nltT, nltF, g0, g1, g2, g3, hk0, hk12, hwg, hwg2, n5, e6]; rfl) ?_
          refine DW.ret ?_
          rw [hL]
          unfold askTail
          simp only [n5, e6, if_true, if_false]
          simp [Tryd.results13, ByteArray.append_assoc]
      · have n6 : ¬ a.Kind = 6 := by simpa using hc4
        refine DW.seq ?_
        refine DW.reg (by simp (maxSteps := 200000) (disch := first | omega | (simp; done) | fail) [wrapI, leT, leF, ltT, ltF, eqF, nleT, nleF, nltT, nltF, g0, g1, g2, g3, hk0, hk12, hwg, hwg2, n5, n6]; rfl) ?_
        refine DW.condB (by simp (maxSteps := 200000) (disch := first | omega | (simp; done) | fail) [wrapI, leT, leF, ltT, ltF, eqF, nleT, nleF, nltT, nltF, g0, g1, g2, g3, hk0, hk12, hwg, hwg2, n5, n6]; exact rfl) (fun hc6 => ?_) (fun hc6 => ?_)
        · have e7 : a.Kind = 7 := by simpa using hc6
          refine DW.seq ?_
          refine DW.drawn mixed (by kernel_rfl) ?_
          refine RegD.addN 3 (by simp [g0, g1, g2, g3, hk0, hk12, hwg, hwg2, n5, n6, e7]; (first | (simp (disch := omega) only [wrapI, ltF, if_false]; done) | (simp (disch := omega) only [wrapI, ltF, if_false]; first | exact ⟨rfl, rfl⟩ | rfl) | skip); (first | done | exact ⟨rfl, rfl⟩ | rfl)) ?_
          refine RegD.cert (Cert.callA rfl (by simp) rfl (by decide) (by simp [g0, g1, g2, g3, hk0, hk12, hwg, hwg2, n5, n6, e7]; exact ⟨rfl, rfl⟩) (by simp [g0, g1, g2, g3, hk0, hk12, hwg, hwg2, n5, n6, e7]; rfl) (by exact implDecimal_spec a.Off ho.1 ho.2) rfl (by simp) (by simp; rfl) rfl) ?_
          refine RegD.addN 1 (by simp [g0, g1, g2, g3, hk0, hk12, hwg, hwg2, n5, n6, e7]; (first | (simp (disch := omega) only [wrapI, ltF, if_false]; done) | (simp (disch := omega) only [wrapI, ltF, if_false]; first | exact ⟨rfl, rfl⟩ | rfl) | skip); (first | done | exact ⟨rfl, rfl⟩ | rfl)) ?_
          refine RegD.addN 1 (by simp [g0, g1, g2, g3, hk0, hk12, hwg, hwg2, n5, n6, e7]; (first | (simp (disch := omega) only [wrapI, ltF, if_false]; done) | (simp (disch := omega) only [wrapI, ltF, if_false]; first | exact ⟨rfl, rfl⟩ | rfl) | skip); (first | done | exact ⟨rfl, rfl⟩ | rfl)) ?_
          refine RegD.addN 2 (by simp [g0, g1, g2, g3, hk0, hk12, hwg, hwg2, n5, n6, e7]; (first | (simp (disch := omega) only [wrapI, ltF, if_false]; done) | (simp (disch := omega) only [wrapI, ltF, if_false]; first | exact ⟨rfl, rfl⟩ | rfl) | skip); (first | done | exact ⟨rfl, rfl⟩ | rfl)) ?_
          refine RegD.cert (Cert.callA rfl (by simp) rfl (by decide) (by simp [g0, g1, g2, g3, hk0, hk12, hwg, hwg2, n5, n6, e7]; exact ⟨rfl, rfl⟩) (by simp [g0, g1, g2, g3, hk0, hk12, hwg, hwg2, n5, n6, e7]; rfl) (by exact hexOrDash_spec a.Text htx2) rfl (by simp) (by simp; rfl) rfl) ?_
          refine RegD.addN 1 (by simp [g0, g1, g2, g3, hk0, hk12, hwg, hwg2, n5, n6, e7]; (first | (simp (disch := omega) only [wrapI, ltF, if_false]; done) | (simp (disch := omega) only [wrapI, ltF, if_false]; first | exact ⟨rfl, rfl⟩ | rfl) | skip); (first | done | exact ⟨rfl, rfl⟩ | rfl)) ?_
          refine RegD.addN 1 (by simp [g0, g1, g2, g3, hk0, hk12, hwg, hwg2, n5, n6, e7]; (first | (simp (disch := omega) only [wrapI, ltF, if_false]; done) | (simp (disch := omega) only [wrapI, ltF, if_false]; first | exact ⟨rfl, rfl⟩ | rfl) | skip); (first | done | exact ⟨rfl, rfl⟩ | rfl)) ?_
          refine RegD.addN 1 (by simp [g0, g1, g2, g3, hk0, hk12, hwg, hwg2, n5, n6, e7]; (first | (simp (disch := omega) only [wrapI, ltF, if_false]; done) | (simp (disch := omega) only [wrapI, ltF, if_false]; first | exact ⟨rfl, rfl⟩ | rfl) | skip); (first | done | exact ⟨rfl, rfl⟩ | rfl)) ?_
          refine RegD.nil ⟨by kernel_rfl, ?_⟩
          refine DW.reg (by simp [g0, g1, g2, g3, hk0, hk12, hwg, hwg2, n5, n6, e7]; rfl) ?_
          refine DW.seq ?_
          refine DW.seq ?_
          refine DW.regs ?_
          refine RegO.opN 2 (by simp (maxSteps := 200000) (disch := first | omega | (simp; done) | fail) [wrapI, leT, leF, ltT, ltF, eqF, nleT, nleF, nltT, nltF, g0, g1, g2, g3, hk0, hk12, hwg, hwg2, n5, n6, e7]; rfl) ?_
          refine RegO.step rfl (OpStep.neS (askV ⟨0, ByteArray.empty, a.To, 0, a.Len, ByteArray.empty⟩) (askV ⟨0, ByteArray.empty, ByteArray.empty, 0, 0, ByteArray.empty⟩) rfl rfl (by decide) (by simp) (by simp) (by kernel_rfl) (fun w => eqAsk_run _ _ 9998 w)) ?_
          refine RegO.nil ?_
          refine DW.condB (by simp (maxSteps := 200000) (disch := first | omega | (simp; done) | fail) [wrapI, leT, leF, ltT, ltF, eqF, nleT, nleF, nltT, nltF, g0, g1, g2, g3, hk0, hk12, hwg, hwg2, n5, n6, e7]; exact rfl) (fun hc7 => ?_) (fun hc7 => ?_)
          · have hq : eqA ⟨0, ByteArray.empty, a.To, 0, a.Len, ByteArray.empty⟩ ⟨0, ByteArray.empty, ByteArray.empty, 0, 0, ByteArray.empty⟩ = eqA (toldA a) a := rest7 a e7
            have ht : eqA (toldA a) a = false := by rw [← hq]; simpa using hc7
            have hres : askLine a = ByteArray.empty := by simp [askLine, ht]
            refine DW.seq ?_
            refine DW.reg (by simp (maxSteps := 200000) (disch := first | omega | (simp; done) | fail) [wrapI, leT, leF, ltT, ltF, eqF, nleT, nleF, nltT, nltF, g0, g1, g2, g3, hk0, hk12, hwg, hwg2, n5, n6, e7]; rfl) ?_
            refine DW.ret ?_
            rw [hres]
            simp [Tryd.results13]
          · have hq : eqA ⟨0, ByteArray.empty, a.To, 0, a.Len, ByteArray.empty⟩ ⟨0, ByteArray.empty, ByteArray.empty, 0, 0, ByteArray.empty⟩ = eqA (toldA a) a := rest7 a e7
            have ht : eqA (toldA a) a = true := by rw [← hq]; simpa using hc7
            have hL : askLine a = W ++ (⟨#[32]⟩ ++ (a.Path ++ askTail a)) := by
              rw [← hW]
              unfold askLine
              rw [if_pos ⟨g0, ht, g1, fun h => absurd h n5, g2, g3⟩]
            refine DW.skip ?_
            refine DW.seq ?_
            refine DW.reg (by simp (maxSteps := 200000) (disch := first | omega | (simp; done) | fail) [wrapI, leT, leF, ltT, ltF, eqF, nleT, nleF, nltT, nltF, g0, g1, g2, g3, hk0, hk12, hwg, hwg2, n5, n6, e7]; rfl) ?_
            refine DW.ret ?_
            rw [hL]
            unfold askTail
            simp only [n5, n6, e7, if_true, if_false]
            simp [Tryd.results13, ByteArray.append_assoc]
        · have n7 : ¬ a.Kind = 7 := by simpa using hc6
          refine DW.seq ?_
          refine DW.reg (by simp (maxSteps := 200000) (disch := first | omega | (simp; done) | fail) [wrapI, leT, leF, ltT, ltF, eqF, nleT, nleF, nltT, nltF, g0, g1, g2, g3, hk0, hk12, hwg, hwg2, n5, n6, n7]; rfl) ?_
          refine DW.condB (by simp (maxSteps := 200000) (disch := first | omega | (simp; done) | fail) [wrapI, leT, leF, ltT, ltF, eqF, nleT, nleF, nltT, nltF, g0, g1, g2, g3, hk0, hk12, hwg, hwg2, n5, n6, n7]; exact rfl) (fun hc8 => ?_) (fun hc8 => ?_)
          · have e8 : a.Kind = 8 := by simpa using hc8
            refine DW.seq ?_
            refine DW.regs ?_
            refine RegO.opN 3 (by simp (maxSteps := 200000) (disch := first | omega | (simp; done) | fail) [wrapI, leT, leF, ltT, ltF, eqF, nleT, nleF, nltT, nltF, g0, g1, g2, g3, hk0, hk12, hwg, hwg2, n5, n6, n7, e8]; rfl) ?_
            refine RegO.step rfl (OpStep.callA rfl (by simp (maxSteps := 200000) (disch := first | omega | (simp; done) | fail) [wrapI, leT, leF, ltT, ltF, eqF, nleT, nleF, nltT, nltF, g0, g1, g2, g3, hk0, hk12, hwg, hwg2, n5, n6, n7, e8]; exact ⟨rfl, rfl⟩) (by simp (maxSteps := 200000) (disch := first | omega | (simp; done) | fail) [wrapI, leT, leF, ltT, ltF, eqF, nleT, nleF, nltT, nltF, g0, g1, g2, g3, hk0, hk12, hwg, hwg2, n5, n6, n7, e8]; rfl) (by exact implDecimal_spec a.Len hl.1 hl.2) (by simp) (by simp (maxSteps := 200000) (disch := first | omega | (simp; done) | fail) [wrapI, leT, leF, ltT, ltF, eqF, nleT, nleF, nltT, nltF, g0, g1, g2, g3, hk0, hk12, hwg, hwg2, n5, n6, n7, e8]; rfl)) ?_
            refine RegO.opN 3 (by simp (maxSteps := 200000) (disch := first | omega | (simp; done) | fail) [wrapI, leT, leF, ltT, ltF, eqF, nleT, nleF, nltT, nltF, g0, g1, g2, g3, hk0, hk12, hwg, hwg2, n5, n6, n7, e8]; rfl) ?_
            refine RegO.nil ?_
            refine DW.reg (by simp [g0, g1, g2, g3, hk0, hk12, hwg, hwg2, n5, n6, n7, e8]; rfl) ?_
            refine DW.seq ?_
            refine DW.seq ?_
            refine DW.regs ?_
            refine RegO.opN 2 (by simp (maxSteps := 200000) (disch := first | omega | (simp; done) | fail) [wrapI, leT, leF, ltT, ltF, eqF, nleT, nleF, nltT, nltF, g0, g1, g2, g3, hk0, hk12, hwg, hwg2, n5, n6, n7, e8]; rfl) ?_
            refine RegO.step rfl (OpStep.neS (askV ⟨0, ByteArray.empty, a.To, a.Off, 0, a.Text⟩) (askV ⟨0, ByteArray.empty, ByteArray.empty, 0, 0, ByteArray.empty⟩) rfl rfl (by decide) (by simp) (by simp) (by kernel_rfl) (fun w => eqAsk_run _ _ 9998 w)) ?_
            refine RegO.nil ?_
            refine DW.condB (by simp (maxSteps := 200000) (disch := first | omega | (simp; done) | fail) [wrapI, leT, leF, ltT, ltF, eqF, nleT, nleF, nltT, nltF, g0, g1, g2, g3, hk0, hk12, hwg, hwg2, n5, n6, n7, e8]; exact rfl) (fun hc9 => ?_) (fun hc9 => ?_)
            · have hq : eqA ⟨0, ByteArray.empty, a.To, a.Off, 0, a.Text⟩ ⟨0, ByteArray.empty, ByteArray.empty, 0, 0, ByteArray.empty⟩ = eqA (toldA a) a := rest8 a e8
              have ht : eqA (toldA a) a = false := by rw [← hq]; simpa using hc9
              have hres : askLine a = ByteArray.empty := by simp [askLine, ht]
              refine DW.seq ?_
              refine DW.reg (by simp (maxSteps := 200000) (disch := first | omega | (simp; done) | fail) [wrapI, leT, leF, ltT, ltF, eqF, nleT, nleF, nltT, nltF, g0, g1, g2, g3, hk0, hk12, hwg, hwg2, n5, n6, n7, e8]; rfl) ?_
              refine DW.ret ?_
              rw [hres]
              simp [Tryd.results13]
            · have hq : eqA ⟨0, ByteArray.empty, a.To, a.Off, 0, a.Text⟩ ⟨0, ByteArray.empty, ByteArray.empty, 0, 0, ByteArray.empty⟩ = eqA (toldA a) a := rest8 a e8
              have ht : eqA (toldA a) a = true := by rw [← hq]; simpa using hc9
              have hL : askLine a = W ++ (⟨#[32]⟩ ++ (a.Path ++ askTail a)) := by
                rw [← hW]
                unfold askLine
                rw [if_pos ⟨g0, ht, g1, fun h => absurd h n5, g2, g3⟩]
              refine DW.skip ?_
              refine DW.seq ?_
              refine DW.reg (by simp (maxSteps := 200000) (disch := first | omega | (simp; done) | fail) [wrapI, leT, leF, ltT, ltF, eqF, nleT, nleF, nltT, nltF, g0, g1, g2, g3, hk0, hk12, hwg, hwg2, n5, n6, n7, e8]; rfl) ?_
              refine DW.ret ?_
              rw [hL]
              unfold askTail
              simp only [n5, n6, n7, e8, if_true, if_false]
              simp [Tryd.results13, ByteArray.append_assoc]
          · have n8 : ¬ a.Kind = 8 := by simpa using hc8
            refine DW.skip ?_
            refine DW.seq ?_
            refine DW.seq ?_
            refine DW.regs ?_
            refine RegO.opN 2 (by simp (maxSteps := 200000) (disch := first | omega | (simp; done) | fail) [wrapI, leT, leF, ltT, ltF, eqF, nleT, nleF, nltT, nltF, g0, g1, g2, g3, hk0, hk12, hwg, hwg2, n5, n6, n7, n8]; rfl) ?_
            refine RegO.step rfl (OpStep.neS (askV ⟨0, ByteArray.empty, a.To, a.Off, a.Len, a.Text⟩) (askV ⟨0, ByteArray.empty, ByteArray.empty, 0, 0, ByteArray.empty⟩) rfl rfl (by decide) (by simp) (by simp) (by kernel_rfl) (fun w => eqAsk_run _ _ 9998 w)) ?_
            refine RegO.nil ?_
            refine DW.condB (by simp (maxSteps := 200000) (disch := first | omega | (simp; done) | fail) [wrapI, leT, leF, ltT, ltF, eqF, nleT, nleF, nltT, nltF, g0, g1, g2, g3, hk0, hk12, hwg, hwg2, n5, n6, n7, n8]; exact rfl) (fun hc10 => ?_) (fun hc10 => ?_)
            · have hq : eqA ⟨0, ByteArray.empty, a.To, a.Off, a.Len, a.Text⟩ ⟨0, ByteArray.empty, ByteArray.empty, 0, 0, ByteArray.empty⟩ = eqA (toldA a) a := rest0 a n5 n6 n7 n8
              have ht : eqA (toldA a) a = false := by rw [← hq]; simpa using hc10
              have hres : askLine a = ByteArray.empty := by simp [askLine, ht]
              refine DW.seq ?_
              refine DW.reg (by simp (maxSteps := 200000) (disch := first | omega | (simp; done) | fail) [wrapI, leT, leF, ltT, ltF, eqF, nleT, nleF, nltT, nltF, g0, g1, g2, g3, hk0, hk12, hwg, hwg2, n5, n6, n7, n8]; rfl) ?_
              refine DW.ret ?_
              rw [hres]
              simp [Tryd.results13]
            · have hq : eqA ⟨0, ByteArray.empty, a.To, a.Off, a.Len, a.Text⟩ ⟨0, ByteArray.empty, ByteArray.empty, 0, 0, ByteArray.empty⟩ = eqA (toldA a) a := rest0 a n5 n6 n7 n8
              have ht : eqA (toldA a) a = true := by rw [← hq]; simpa using hc10
              have hL : askLine a = W ++ (⟨#[32]⟩ ++ (a.Path ++ askTail a)) := by
                rw [← hW]
                unfold askLine
                rw [if_pos ⟨g0, ht, g1, fun h => absurd h n5, g2, g3⟩]
              refine DW.skip ?_
              refine DW.seq ?_
              refine DW.reg (by simp (maxSteps := 200000) (disch := first | omega | (simp; done) | fail) [wrapI, leT, leF, ltT, ltF, eqF, nleT, nleF, nltT, nltF, g0, g1, g2, g3, hk0, hk12, hwg, hwg2, n5, n6, n7, n8]; rfl) ?_
              refine DW.ret ?_
              rw [hL]
              unfold askTail
              simp only [n5, n6, n7, n8, if_true, if_false]
              simp [Tryd.results13, ByteArray.append_assoc]
end Go.Proofs.YtciieaidbiejmaaDoor.DM
