import Derived.Test.YtciieaidbiejmaaDoorLT3
namespace Go.Proofs.YtciieaidbiejmaaDoor.DM
set_option linter.unusedVariables false
set_option linter.unusedSimpArgs false
set_option maxRecDepth 4000
set_option maxHeartbeats 8000000
theorem eqAsk_run (a b : Ask) (dp : Nat) (w : Go.World) : (Op.equalIn (dp + 2) 26 (.agg (askV a).toArray) (.agg (askV b).toArray)).run Tryd.prog w = .ok (eqA a b) w := by
  refine eqA_of Tryd.underlying26 (by kernel_rfl) ?_
  refine eqf_cons rfl (by rfl) (by rfl) (eqI_of Tryd.underlying3) ?_
  refine eqf_cons rfl (by rfl) (by rfl) (eqT_of Tryd.underlying9) ?_
  refine eqf_cons rfl (by rfl) (by rfl) (eqT_of Tryd.underlying9) ?_
  refine eqf_cons rfl (by rfl) (by rfl) (eqI_of Tryd.underlying3) ?_
  refine eqf_cons rfl (by rfl) (by rfl) (eqI_of Tryd.underlying3) ?_
  refine eqf_cons rfl (by rfl) (by rfl) (eqT_of Tryd.underlying9) ?_
  exact eqf_nil
theorem specAskOk_spec (a : Ask) : Spec Tryd.prog 46 [raAsk a] [none] [db (askOkB a)] [raAsk a] := by
  refine Spec.intro Tryd.func46 rfl rfl Tryd.ntmps46 rfl (by simp) ?_
  refine DW.seq ?_
  refine DW.reg (by simp (maxSteps := 200000) (disch := first | omega | (simp; done) | fail) [wrapI, leT, leF, ltT, ltF, eqF, nleT, nleF, nltT, nltF]; rfl) ?_
  refine DW.seq ?_
  rcases Bool.eq_false_or_eq_true (inB a.Kind 1 11) with g0 | g0
  · skip
    refine DW.regs ?_
    refine RegO.opN 2 (by simp (maxSteps := 200000) (disch := first | omega | (simp; done) | fail) [wrapI, leT, leF, ltT, ltF, eqF, nleT, nleF, nltT, nltF, g0]; rfl) ?_
    refine RegO.step rfl (OpStep.callA rfl (by simp (maxSteps := 200000) (disch := first | omega | (simp; done) | fail) [wrapI, leT, leF, ltT, ltF, eqF, nleT, nleF, nltT, nltF, g0]; exact ⟨rfl, rfl⟩) (by simp (maxSteps := 200000) (disch := first | omega | (simp; done) | fail) [wrapI, leT, leF, ltT, ltF, eqF, nleT, nleF, nltT, nltF, g0]; rfl) (by exact l01In_spec _ _ _) (by simp) (by simp (maxSteps := 200000) (disch := first | omega | (simp; done) | fail) [wrapI, leT, leF, ltT, ltF, eqF, nleT, nleF, nltT, nltF, g0]; rfl)) ?_
    refine RegO.opN 7 (by simp (maxSteps := 200000) (disch := first | omega | (simp; done) | fail) [wrapI, leT, leF, ltT, ltF, eqF, nleT, nleF, nltT, nltF, g0]; rfl) ?_
    refine RegO.nil ?_
    refine DW.ret ?_
    simp [Tryd.results46, askOkB, g0]
  · skip
    refine DW.regs ?_
    refine RegO.opN 2 (by simp (maxSteps := 200000) (disch := first | omega | (simp; done) | fail) [wrapI, leT, leF, ltT, ltF, eqF, nleT, nleF, nltT, nltF, g0]; rfl) ?_
    refine RegO.step rfl (OpStep.callA rfl (by simp (maxSteps := 200000) (disch := first | omega | (simp; done) | fail) [wrapI, leT, leF, ltT, ltF, eqF, nleT, nleF, nltT, nltF, g0]; exact ⟨rfl, rfl⟩) (by simp (maxSteps := 200000) (disch := first | omega | (simp; done) | fail) [wrapI, leT, leF, ltT, ltF, eqF, nleT, nleF, nltT, nltF, g0]; rfl) (by exact l01In_spec _ _ _) (by simp) (by simp (maxSteps := 200000) (disch := first | omega | (simp; done) | fail) [wrapI, leT, leF, ltT, ltF, eqF, nleT, nleF, nltT, nltF, g0]; rfl)) ?_
    refine RegO.opN 7 (by simp (maxSteps := 200000) (disch := first | omega | (simp; done) | fail) [wrapI, leT, leF, ltT, ltF, eqF, nleT, nleF, nltT, nltF, g0]; rfl) ?_
    refine RegO.nil ?_
    refine DW.ret ?_
    simp [Tryd.results46, askOkB, g0]
theorem implAskOk_spec (a : Ask) : Spec Tryd.prog 53 [raAsk a] [none] [db (askOkB a)] [raAsk a] := by
  refine Spec.intro Tryd.func53 rfl rfl Tryd.ntmps53 rfl (by simp) ?_
  refine DW.seq ?_
  refine DW.reg (by simp (maxSteps := 200000) (disch := first | omega | (simp; done) | fail) [wrapI, leT, leF, ltT, ltF, eqF, nleT, nleF, nltT, nltF]; rfl) ?_
  refine DW.seq ?_
  rcases Bool.eq_false_or_eq_true (inB a.Kind 1 11) with g0 | g0
  · skip
    refine DW.regs ?_
    refine RegO.opN 2 (by simp (maxSteps := 200000) (disch := first | omega | (simp; done) | fail) [wrapI, leT, leF, ltT, ltF, eqF, nleT, nleF, nltT, nltF, g0]; rfl) ?_
    refine RegO.step rfl (OpStep.callA rfl (by simp (maxSteps := 200000) (disch := first | omega | (simp; done) | fail) [wrapI, leT, leF, ltT, ltF, eqF, nleT, nleF, nltT, nltF, g0]; exact ⟨rfl, rfl⟩) (by simp (maxSteps := 200000) (disch := first | omega | (simp; done) | fail) [wrapI, leT, leF, ltT, ltF, eqF, nleT, nleF, nltT, nltF, g0]; rfl) (by exact within_spec _ _ _) (by simp) (by simp (maxSteps := 200000) (disch := first | omega | (simp; done) | fail) [wrapI, leT, leF, ltT, ltF, eqF, nleT, nleF, nltT, nltF, g0]; rfl)) ?_
    refine RegO.opN 7 (by simp (maxSteps := 200000) (disch := first | omega | (simp; done) | fail) [wrapI, leT, leF, ltT, ltF, eqF, nleT, nleF, nltT, nltF, g0]; rfl) ?_
    refine RegO.nil ?_
    refine DW.ret ?_
    simp [Tryd.results53, askOkB, g0]
  · skip
    refine DW.regs ?_
    refine RegO.opN 2 (by simp (maxSteps := 200000) (disch := first | omega | (simp; done) | fail) [wrapI, leT, leF, ltT, ltF, eqF, nleT, nleF, nltT, nltF, g0]; rfl) ?_
    refine RegO.step rfl (OpStep.callA rfl (by simp (maxSteps := 200000) (disch := first | omega | (simp; done) | fail) [wrapI, leT, leF, ltT, ltF, eqF, nleT, nleF, nltT, nltF, g0]; exact ⟨rfl, rfl⟩) (by simp (maxSteps := 200000) (disch := first | omega | (simp; done) | fail) [wrapI, leT, leF, ltT, ltF, eqF, nleT, nleF, nltT, nltF, g0]; rfl) (by exact within_spec _ _ _) (by simp) (by simp (maxSteps := 200000) (disch := first | omega | (simp; done) | fail) [wrapI, leT, leF, ltT, ltF, eqF, nleT, nleF, nltT, nltF, g0]; rfl)) ?_
    refine RegO.opN 7 (by simp (maxSteps := 200000) (disch := first | omega | (simp; done) | fail) [wrapI, leT, leF, ltT, ltF, eqF, nleT, nleF, nltT, nltF, g0]; rfl) ?_
    refine RegO.nil ?_
    refine DW.ret ?_
    simp [Tryd.results53, askOkB, g0]
theorem l31Plain_spec (s : ByteArray) (hs : s.size ≤ 2 ^ 36) : Spec Tryd.prog 48 [rs s] [none] [db (plainP s)] [rs s] := by
  refine Spec.intro Tryd.func48 rfl rfl Tryd.ntmps48 rfl (by simp) ?_
  refine DW.seq ?_
  refine DW.reg (by simp (maxSteps := 200000) (disch := first | omega | (simp; done) | fail) [wrapI, leT, leF, ltT, ltF, eqF, nleT, nleF, nltT, nltF]; rfl) ?_
  refine DW.seq ?_
  refine DW.seq ?_
  refine DW.reg (by simp (maxSteps := 200000) (disch := first | omega | (simp; done) | fail) [wrapI, leT, leF, ltT, ltF, eqF, nleT, nleF, nltT, nltF]; rfl) ?_
  refine DW.block ?_
  refine DW.loopS (α := Nat) (fun i => i ≤ s.size ∧ (s.data.toList.take i).all plainC = true) (fun i => s.size - i) (fun i => [(3, vi i)]) (fun i => []) [(0, _)] [] [] 0 (⟨Nat.zero_le _, by simp⟩) (by simp; exact rfl) (by simp) (by simp) (by rfl) ?_
  rintro i ⟨hi, hall⟩
  refine DW.seq ?_
  refine DW.seq ?_
  refine DW.reg (by simp (maxSteps := 200000) (disch := first | omega | (simp; done) | fail) [wrapI, leT, leF, ltT, ltF, eqF, nleT, nleF, nltT, nltF]; rfl) ?_
  refine DW.condB (by simp (maxSteps := 200000) (disch := first | omega | (simp; done) | fail) [wrapI, leT, leF, ltT, ltF, eqF, nleT, nleF, nltT, nltF]; exact rfl) (fun hc0 => ?_) (fun hc0 => ?_)
  · have hlt : i < s.data.toList.length := by
      have : i < s.size := by simpa using hc0
      rw [ba_len]; exact this
    have hlt1 : (i : Int) < s.size := by rw [ba_len] at hlt; omega
    have hd := ba_get s i hlt
    have hcb : (s.data.toList[i]).toNat < 256 := (s.data.toList[i]).toNat_lt
    have hta := all_take_succ plainC s.data.toList i hlt
    have hmem : s.data.toList[i] ∈ s.data.toList := List.getElem_mem hlt
    generalize s.data.toList[i] = c at hd hcb hta hmem
    have hd2 : ∀ h : i < s.size, s[i]'h = c := fun h => by rw [getElem?_pos s i h] at hd; exact Option.some.inj hd
    refine DW.skip ?_
    refine DW.seq ?_
    refine DW.block ?_
    refine DW.seq ?_
    refine DW.regs ?_
    refine RegO.opN 4 (by simp (maxSteps := 200000) (disch := first | omega | (simp; done) | fail) [wrapI, leT, leF, ltT, ltF, eqF, nleT, nleF, nltT, nltF, hlt1, hd, hd2, plainC]; rfl) ?_
    refine RegO.step rfl (OpStep.callA rfl (by simp (maxSteps := 200000) (disch := first | omega | (simp; done) | fail) [wrapI, leT, leF, ltT, ltF, eqF, nleT, nleF, nltT, nltF, hlt1, hd, hd2, plainC]; exact ⟨rfl, rfl⟩) (by simp (maxSteps := 200000) (disch := first | omega | (simp; done) | fail) [wrapI, leT, leF, ltT, ltF, eqF, nleT, nleF, nltT, nltF, hlt1, hd, hd2, plainC]; rfl) (by exact l01In_spec _ _ _) (by simp) (by simp (maxSteps := 200000) (disch := first | omega | (simp; done) | fail) [wrapI, leT, leF, ltT, ltF, eqF, nleT, nleF, nltT, nltF, hlt1, hd, hd2, plainC]; rfl)) ?_
    refine RegO.opN 1 (by simp (maxSteps := 200000) (disch := first | omega | (simp; done) | fail) [wrapI, leT, leF, ltT, ltF, eqF, nleT, nleF, nltT, nltF, hlt1, hd, hd2, plainC]; rfl) ?_
    refine RegO.nil ?_
    refine DW.condB (by simp (maxSteps := 200000) (disch := first | omega | (simp; done) | fail) [wrapI, leT, leF, ltT, ltF, eqF, nleT, nleF, nltT, nltF, hlt1, hd, hd2]; exact rfl) (fun hc1 => ?_) (fun hc1 => ?_)
    · have hpc : plainC c = false := by simpa [plainC] using hc1
      have hall2 : s.data.toList.all plainC = false := by
        rw [List.all_eq_false]
        exact ⟨c, hmem, by simp [hpc]⟩
      have hres : plainP s = false := by simp [plainP, hall2]
      refine DW.seq ?_
      refine DW.reg (by simp (maxSteps := 200000) (disch := first | omega | (simp; done) | fail) [wrapI, leT, leF, ltT, ltF, eqF, nleT, nleF, nltT, nltF, hlt1, hd, hd2]; rfl) ?_
      refine DW.ret ?_
      rw [hres]
      simp [Tryd.results48]
    · have hpc : plainC c = true := by simpa [plainC] using hc1
      refine DW.skip ?_
      refine DW.reg (by simp (maxSteps := 200000) (disch := first | omega | (simp; done) | fail) [wrapI, leT, leF, ltT, ltF, eqF, nleT, nleF, nltT, nltF, hlt1, hd, hd2]; rfl) ?_
      exact ⟨i + 1, ⟨by rw [ba_len] at hlt; omega, by rw [hta, hall, hpc]; rfl⟩, by rw [ba_len] at hlt; omega, by simp, by simp, by simp, by rfl⟩
  · have hil : i = s.size := by
      have : ¬ i < s.size := by simpa using hc0
      omega
    subst hil
    rw [← ba_len, List.take_length] at hall
    have hres : plainP s = inB s.size 1 100 := by simp only [plainP, hall, Bool.true_and]
    refine DW.exit ?_
    refine DW.seq ?_
    refine DW.regs ?_
    refine RegO.opN 2 (by simp (maxSteps := 200000) (disch := first | omega | (simp; done) | fail) [wrapI, leT, leF, ltT, ltF, eqF, nleT, nleF, nltT, nltF]; rfl) ?_
    refine RegO.step rfl (OpStep.callA rfl (by simp (maxSteps := 200000) (disch := first | omega | (simp; done) | fail) [wrapI, leT, leF, ltT, ltF, eqF, nleT, nleF, nltT, nltF]; exact ⟨rfl, rfl⟩) (by simp (maxSteps := 200000) (disch := first | omega | (simp; done) | fail) [wrapI, leT, leF, ltT, ltF, eqF, nleT, nleF, nltT, nltF]; rfl) (by exact l01In_spec _ _ _) (by simp) (by simp (maxSteps := 200000) (disch := first | omega | (simp; done) | fail) [wrapI, leT, leF, ltT, ltF, eqF, nleT, nleF, nltT, nltF]; rfl)) ?_
    refine RegO.opN 1 (by simp (maxSteps := 200000) (disch := first | omega | (simp; done) | fail) [wrapI, leT, leF, ltT, ltF, eqF, nleT, nleF, nltT, nltF]; rfl) ?_
    refine RegO.nil ?_
    refine DW.ret ?_
    rw [hres]
    simp [Tryd.results48]
theorem isLinePath_spec (s : ByteArray) (hs : s.size ≤ 2 ^ 36) : Spec Tryd.prog 54 [rs s] [none] [db (plainP s)] [rs s] := by
  refine Spec.intro Tryd.func54 rfl rfl Tryd.ntmps54 rfl (by simp) ?_
  refine DW.seq ?_
  refine DW.reg (by simp (maxSteps := 200000) (disch := first | omega | (simp; done) | fail) [wrapI, leT, leF, ltT, ltF, eqF, nleT, nleF, nltT, nltF]; rfl) ?_
  refine DW.seq ?_
  refine DW.seq ?_
  refine DW.reg (by simp (maxSteps := 200000) (disch := first | omega | (simp; done) | fail) [wrapI, leT, leF, ltT, ltF, eqF, nleT, nleF, nltT, nltF]; rfl) ?_
  refine DW.block ?_
  refine DW.loopS (α := Nat) (fun i => i ≤ s.size ∧ (s.data.toList.take i).all plainC = true) (fun i => s.size - i) (fun i => [(6, vi i)]) (fun i => []) [(0, _), (5, _)] [] [] 0 (⟨Nat.zero_le _, by simp⟩) (by simp; exact ⟨rfl, rfl⟩) (by simp) (by simp) (by rfl) ?_
  rintro i ⟨hi, hall⟩
  refine DW.seq ?_
  refine DW.reg (by simp (maxSteps := 200000) (disch := first | omega | (simp; done) | fail) [wrapI, leT, leF, ltT, ltF, eqF, nleT, nleF, nltT, nltF]; rfl) ?_
  refine DW.seq ?_
  refine DW.condB (by simp (maxSteps := 200000) (disch := first | omega | (simp; done) | fail) [wrapI, leT, leF, ltT, ltF, eqF, nleT, nleF, nltT, nltF]; exact rfl) (fun hc0 => ?_) (fun hc0 => ?_)
  · have hlt : i < s.data.toList.length := by
      have : i < s.size := by simpa using hc0
      rw [ba_len]; exact this
    have hlt1 : (i : Int) < s.size := by rw [ba_len] at hlt; omega
    have hd := ba_get s i hlt
    have hcb : (s.data.toList[i]).toNat < 256 := (s.data.toList[i]).toNat_lt
    have hta := all_take_succ plainC s.data.toList i hlt
    have hmem : s.data.toList[i] ∈ s.data.toList := List.getElem_mem hlt
    generalize s.data.toList[i] = c at hd hcb hta hmem
    have hd2 : ∀ h : i < s.size, s[i]'h = c := fun h => by rw [getElem?_pos s i h] at hd; exact Option.some.inj hd
    refine DW.skip ?_
    refine DW.seq ?_
    refine DW.block ?_
    refine DW.seq ?_
    refine DW.reg (by simp (maxSteps := 200000) (disch := first | omega | (simp; done) | fail) [wrapI, leT, leF, ltT, ltF, eqF, nleT, nleF, nltT, nltF, hlt1, hd, hd2]; rfl) ?_
    refine DW.seq ?_
    have hsp : ((c.toNat : Int) < 33 ∧ plainC c = false) ∨ (¬ ((c.toNat : Int) < 33) ∧ (126 : Int) < c.toNat ∧ plainC c = false) ∨ (¬ ((c.toNat : Int) < 33) ∧ ¬ ((126 : Int) < c.toNat) ∧ plainC c = true) := by
      simp only [plainC, inB, Bool.and_eq_true, Bool.and_eq_false_iff, decide_eq_true_eq, decide_eq_false_iff_not]; omega
    rcases hsp with ⟨g0, hpc⟩ | ⟨g0, g1, hpc⟩ | ⟨g0, g1, hpc⟩
    · have hall2 : s.data.toList.all plainC = false := by
        rw [List.all_eq_false]
        exact ⟨c, hmem, by simp [hpc]⟩
      have hres : plainP s = false := by simp [plainP, hall2]
      refine DW.reg (by simp (maxSteps := 200000) (disch := first | omega | (simp; done) | fail) [wrapI, leT, leF, ltT, ltF, eqF, nleT, nleF, nltT, nltF, hlt1, hd, hd2, g0]; rfl) ?_
      refine DW.condT (by simp (maxSteps := 200000) (disch := first | omega | (simp; done) | fail) [wrapI, leT, leF, ltT, ltF, eqF, nleT, nleF, nltT, nltF, hlt1, hd, hd2, g0]) ?_
      refine DW.seq ?_
      refine DW.reg (by simp (maxSteps := 200000) (disch := first | omega | (simp; done) | fail) [wrapI, leT, leF, ltT, ltF, eqF, nleT, nleF, nltT, nltF, hlt1, hd, hd2, g0]; rfl) ?_
      refine DW.ret ?_
      rw [hres]
      simp [Tryd.results54]
    · have hall2 : s.data.toList.all plainC = false := by
        rw [List.all_eq_false]
        exact ⟨c, hmem, by simp [hpc]⟩
      have hres : plainP s = false := by simp [plainP, hall2]
      refine DW.reg (by simp (maxSteps := 200000) (disch := first | omega | (simp; done) | fail) [wrapI, leT, leF, ltT, ltF, eqF, nleT, nleF, nltT, nltF, hlt1, hd, hd2, g0, g1]; rfl) ?_
      refine DW.condT (by simp (maxSteps := 200000) (disch := first | omega | (simp; done) | fail) [wrapI, leT, leF, ltT, ltF, eqF, nleT, nleF, nltT, nltF, hlt1, hd, hd2, g0, g1]) ?_
      refine DW.seq ?_
      refine DW.reg (by simp (maxSteps := 200000) (disch := first | omega | (simp; done) | fail) [wrapI, leT, leF, ltT, ltF, eqF, nleT, nleF, nltT, nltF, hlt1, hd, hd2, g0, g1]; rfl) ?_
      refine DW.ret ?_
      rw [hres]
      simp [Tryd.results54]
    · skip
      refine DW.reg (by simp (maxSteps := 200000) (disch := first | omega | (simp; done) | fail) [wrapI, leT, leF, ltT, ltF, eqF, nleT, nleF, nltT, nltF, hlt1, hd, hd2, g0, g1]; rfl) ?_
      refine DW.condF (by simp (maxSteps := 200000) (disch := first | omega | (simp; done) | fail) [wrapI, leT, leF, ltT, ltF, eqF, nleT, nleF, nltT, nltF, hlt1, hd, hd2, g0, g1]) ?_
      refine DW.skip ?_
      refine DW.reg (by simp (maxSteps := 200000) (disch := first | omega | (simp; done) | fail) [wrapI, leT, leF, ltT, ltF, eqF, nleT, nleF, nltT, nltF, hlt1, hd, hd2, g0, g1]; rfl) ?_
      exact ⟨i + 1, ⟨by rw [ba_len] at hlt; omega, by rw [hta, hall, hpc]; rfl⟩, by rw [ba_len] at hlt; omega, by simp, by simp, by simp, by rfl⟩
  · have hil : i = s.size := by
      have : ¬ i < s.size := by simpa using hc0
      omega
    subst hil
    rw [← ba_len, List.take_length] at hall
    have hres : plainP s = inB s.size 1 100 := by simp only [plainP, hall, Bool.true_and]
    refine DW.exit ?_
    refine DW.seq ?_
    refine DW.regs ?_
    refine RegO.opN 2 (by simp (maxSteps := 200000) (disch := first | omega | (simp; done) | fail) [wrapI, leT, leF, ltT, ltF, eqF, nleT, nleF, nltT, nltF]; rfl) ?_
    refine RegO.step rfl (OpStep.callA rfl (by simp (maxSteps := 200000) (disch := first | omega | (simp; done) | fail) [wrapI, leT, leF, ltT, ltF, eqF, nleT, nleF, nltT, nltF]; exact ⟨rfl, rfl⟩) (by simp (maxSteps := 200000) (disch := first | omega | (simp; done) | fail) [wrapI, leT, leF, ltT, ltF, eqF, nleT, nleF, nltT, nltF]; rfl) (by exact within_spec _ _ _) (by simp) (by simp (maxSteps := 200000) (disch := first | omega | (simp; done) | fail) [wrapI, leT, leF, ltT, ltF, eqF, nleT, nleF, nltT, nltF]; rfl)) ?_
    refine RegO.opN 1 (by simp (maxSteps := 200000) (disch := first | omega | (simp; done) | fail) [wrapI, leT, leF, ltT, ltF, eqF, nleT, nleF, nltT, nltF]; rfl) ?_
    refine RegO.nil ?_
    refine DW.ret ?_
    rw [hres]
    simp [Tryd.results54]
theorem l31Told_spec (a : Ask) : Spec Tryd.prog 47 [raAsk a] [some 6] (Ask.d (toldA a)) [raAsk a] := by
  refine Spec.intro Tryd.func47 rfl rfl Tryd.ntmps47 rfl (by simp) ?_
  refine DW.seq ?_
  refine DW.reg (by simp (maxSteps := 200000) (disch := first | omega | (simp; done) | fail) [wrapI, leT, leF, ltT, ltF, eqF, nleT, nleF, nltT, nltF]; rfl) ?_
  refine DW.seq ?_
  refine DW.reg (by simp; rfl) ?_
  refine DW.seq ?_
  refine DW.seq ?_
  refine DW.reg (by simp (maxSteps := 200000) (disch := first | omega | (simp; done) | fail) [wrapI, leT, leF, ltT, ltF, eqF, nleT, nleF, nltT, nltF]; rfl) ?_
  refine DW.block ?_
  refine DW.seq ?_
  refine DW.reg (by simp (maxSteps := 200000) (disch := first | omega | (simp; done) | fail) [wrapI, leT, leF, ltT, ltF, eqF, nleT, nleF, nltT, nltF]; rfl) ?_
  refine DW.condB (by simp (maxSteps := 200000) (disch := first | omega | (simp; done) | fail) [wrapI, leT, leF, ltT, ltF, eqF, nleT, nleF, nltT, nltF]; exact rfl) (fun hc0 => ?_) (fun hc0 => ?_)
  · have e5 : a.Kind = 5 := by simpa using hc0
    refine DW.reg (by simp [e5]; rfl) ?_
    refine DW.seq ?_
    refine DW.reg (by simp [e5]; rfl) ?_
    refine DW.ret ?_
    simp [Tryd.results47, toldA, e5]
  · have n5 : ¬ a.Kind = 5 := by simpa using hc0
    refine DW.seq ?_
    refine DW.reg (by simp (maxSteps := 200000) (disch := first | omega | (simp; done) | fail) [wrapI, leT, leF, ltT, ltF, eqF, nleT, nleF, nltT, nltF, n5]; rfl) ?_
    refine DW.condB (by simp (maxSteps := 200000) (disch := first | omega | (simp; done) | fail) [wrapI, leT, leF, ltT, ltF, eqF, nleT, nleF, nltT, nltF, n5]; exact rfl) (fun hc1 => ?_) (fun hc1 => ?_)
    · have e6 : a.Kind = 6 := by simpa using hc1
      refine DW.seq ?_
      refine DW.reg (by simp [n5, e6]; rfl) ?_
      refine DW.reg (by simp [n5, e6]; rfl) ?_
      refine DW.seq ?_
      refine DW.reg (by simp [n5, e6]; rfl) ?_
      refine DW.ret ?_
      simp [Tryd.results47, toldA, n5, e6]
    · have n6 : ¬ a.Kind = 6 := by simpa using hc1
      refine DW.seq ?_
      refine DW.reg (by simp (maxSteps := 200000) (disch := first | omega | (simp; done) | fail) [wrapI, leT, leF, ltT, ltF, eqF, nleT, nleF, nltT, nltF, n5, n6]; rfl) ?_
      refine DW.condB (by simp (maxSteps := 200000) (disch := first | omega | (simp; done) | fail) [wrapI, leT, leF, ltT, ltF, eqF, nleT, nleF, nltT, nltF, n5, n6]; exact rfl) (fun hc2 => ?_) (fun hc2 => ?_)
      · have e7 : a.Kind = 7 := by simpa using hc2
        refine DW.seq ?_
        refine DW.reg (by simp [n5, n6, e7]; rfl) ?_
        refine DW.reg (by simp [n5, n6, e7]; rfl) ?_
        refine DW.seq ?_
        refine DW.reg (by simp [n5, n6, e7]; rfl) ?_
        refine DW.ret ?_
        simp [Tryd.results47, toldA, n5, n6, e7]
      · have n7 : ¬ a.Kind = 7 := by simpa using hc2
        refine DW.seq ?_
        refine DW.reg (by simp (maxSteps := 200000) (disch := first | omega | (simp; done) | fail) [wrapI, leT, leF, ltT, ltF, eqF, nleT, nleF, nltT, nltF, n5, n6, n7]; rfl) ?_
        refine DW.condB (by simp (maxSteps := 200000) (disch := first | omega | (simp; done) | fail) [wrapI, leT, leF, ltT, ltF, eqF, nleT, nleF, nltT, nltF, n5, n6, n7]; exact rfl) (fun hc3 => ?_) (fun hc3 => ?_)
        · have e8 : a.Kind = 8 := by simpa using hc3
          refine DW.reg (by simp [n5, n6, n7, e8]; rfl) ?_
          refine DW.seq ?_
          refine DW.reg (by simp [n5, n6, n7, e8]; rfl) ?_
          refine DW.ret ?_
          simp [Tryd.results47, toldA, n5, n6, n7, e8]
        · have n8 : ¬ a.Kind = 8 := by simpa using hc3
          refine DW.skip ?_
          refine DW.seq ?_
          refine DW.reg (by simp [n5, n6, n7, n8]; rfl) ?_
          refine DW.ret ?_
          simp [Tryd.results47, toldA, n5, n6, n7, n8]
theorem l31Words_spec  : Spec Tryd.prog 50 [] [none] [dr askW] [] := by
  refine Spec.intro Tryd.func50 rfl rfl Tryd.ntmps50 rfl (by simp) ?_
  refine DW.seq ?_
  refine DW.reg (by simp (maxSteps := 200000) (disch := first | omega | (simp; done) | fail) [wrapI, leT, leF, ltT, ltF, eqF, nleT, nleF, nltT, nltF]; rfl) ?_
  refine DW.seq ?_
  refine DW.reg (by simp (maxSteps := 200000) (disch := first | omega | (simp; done) | fail) [wrapI, leT, leF, ltT, ltF, eqF, nleT, nleF, nltT, nltF]; rfl) ?_
  refine DW.ret ?_
  simp [Tryd.results50, askW, rD, Row.d]
theorem askWords_spec  : Spec Tryd.prog 56 [] [none] [dr askW] [] := by
  refine Spec.intro Tryd.func56 rfl rfl Tryd.ntmps56 rfl (by simp) ?_
  refine DW.seq ?_
  refine DW.reg (by simp (maxSteps := 200000) (disch := first | omega | (simp; done) | fail) [wrapI, leT, leF, ltT, ltF, eqF, nleT, nleF, nltT, nltF]; rfl) ?_
  refine DW.seq ?_
  refine DW.reg (by simp (maxSteps := 200000) (disch := first | omega | (simp; done) | fail) [wrapI, leT, leF, ltT, ltF, eqF, nleT, nleF, nltT, nltF]; rfl) ?_
  refine DW.ret ?_
  simp [Tryd.results56, askW, rD, Row.d]
end Go.Proofs.YtciieaidbiejmaaDoor.DM
