import Derived.Test.YtciieaidbiejmaaAS4
import Derived.Test.YtciieaidbiejmaaAS6
namespace Go.Proofs.Ytciieaidbiejmaa.DM
set_option linter.unusedVariables false
set_option linter.unusedSimpArgs false
set_option maxRecDepth 4000
set_option maxHeartbeats 8000000
theorem textCut_spec (old : ByteArray) (n : Int) : Spec Try.prog 46 [rs old, ri n] [none] [ds (textCut old n)] [rs old, ri n] := by
  refine Spec.intro Try.func46 rfl rfl Try.ntmps46 rfl (by simp) ?_
  refine DW.seq ?_
  refine DW.reg (by simp (maxSteps := 200000) (disch := first | omega | (simp; done) | fail) [wrapI, leT, leF, ltT, ltF, eqF, nleT, nleF, nltT, nltF]; rfl) ?_
  refine DW.seq ?_
  refine DW.seq ?_
  refine DW.regs ?_
  refine RegO.opN 1 (by simp (maxSteps := 200000) (disch := first | omega | (simp; done) | fail) [wrapI, leT, leF, ltT, ltF, eqF, nleT, nleF, nltT, nltF]; rfl) ?_
  refine RegO.step rfl (OpStep.callA rfl (by simp (maxSteps := 200000) (disch := first | omega | (simp; done) | fail) [wrapI, leT, leF, ltT, ltF, eqF, nleT, nleF, nltT, nltF]; exact ⟨rfl, rfl⟩) (by simp (maxSteps := 200000) (disch := first | omega | (simp; done) | fail) [wrapI, leT, leF, ltT, ltF, eqF, nleT, nleF, nltT, nltF]; rfl) (by exact l01In_spec _ _ _) (by simp) (by simp (maxSteps := 200000) (disch := first | omega | (simp; done) | fail) [wrapI, leT, leF, ltT, ltF, eqF, nleT, nleF, nltT, nltF]; rfl)) ?_
  refine RegO.opN 1 (by simp (maxSteps := 200000) (disch := first | omega | (simp; done) | fail) [wrapI, leT, leF, ltT, ltF, eqF, nleT, nleF, nltT, nltF]; rfl) ?_
  refine RegO.nil ?_
  refine DW.condB (by simp (maxSteps := 200000) (disch := first | omega | (simp; done) | fail) [wrapI, leT, leF, ltT, ltF, eqF, nleT, nleF, nltT, nltF]; exact rfl) (fun hc0 => ?_) (fun hc0 => ?_)
  · have hin : inB n 0 128 = false := by simpa using hc0
    rw [textCut, if_pos hin]
    refine DW.seq ?_
    refine DW.reg (by simp (maxSteps := 200000) (disch := first | omega | (simp; done) | fail) [wrapI, leT, leF, ltT, ltF, eqF, nleT, nleF, nltT, nltF]; rfl) ?_
    refine DW.ret ?_
    simp [Try.results46]
  · have hin : inB n 0 128 = true := by simpa using hc0
    rw [textCut, if_neg (by simp [hin])]
    have hb := inB_iff.1 hin
    obtain ⟨m, rfl⟩ := Int.eq_ofNat_of_zero_le hb.1
    rw [Int.toNat_natCast]
    refine DW.skip ?_
    refine DW.seq ?_
    refine DW.seq ?_
    refine DW.reg (by simp (maxSteps := 200000) (disch := first | omega | (simp; done) | fail) [wrapI, leT, leF, ltT, ltF, eqF, nleT, nleF, nltT, nltF]; rfl) ?_
    refine DW.condB (by simp (maxSteps := 200000) (disch := first | omega | (simp; done) | fail) [wrapI, leT, leF, ltT, ltF, eqF, nleT, nleF, nltT, nltF]; exact rfl) (fun hc1 => ?_) (fun hc1 => ?_)
    · have hle : (m : Int) ≤ old.size := by simpa using hc1
      have hle2 : m ≤ old.size := by omega
      rw [if_pos hle]
      refine DW.seq ?_
      refine DW.reg (by simp (maxSteps := 200000) (disch := first | omega | (simp; done) | fail) [wrapI, leT, leF, ltT, ltF, eqF, nleT, nleF, nltT, nltF, hle, hle2]; rfl) ?_
      refine DW.ret ?_
      simp [Try.results46]
    · have hle : ¬ (m : Int) ≤ old.size := by simpa using hc1
      rw [if_neg hle]
      obtain ⟨z, hz⟩ : ∃ z, z = m - old.size := ⟨_, rfl⟩
      rw [← hz]
      have hz1 : (m : Int) - old.size = (z : Int) := by omega
      have hz2 : IntKind.i64.wrap (z : Int) = (z : Int) := wr _ (by omega) (by omega)
      have hs1 : ¬ (9223372036854775807 : Int) < (old.size : Int) + (z : Int) := by omega
      refine DW.skip ?_
      refine DW.seq ?_
      refine DW.regs ?_
      refine RegO.opN 5 (by simp (maxSteps := 200000) (disch := first | omega | (simp; done) | fail) [wrapI, leT, leF, ltT, ltF, eqF, nleT, nleF, nltT, nltF, hz1, hz2, hs1]; rfl) ?_
      refine RegO.step rfl (OpStep.callA rfl (by simp (maxSteps := 200000) (disch := first | omega | (simp; done) | fail) [wrapI, leT, leF, ltT, ltF, eqF, nleT, nleF, nltT, nltF, hz1, hz2, hs1]; exact ⟨rfl, rfl⟩) (by simp (maxSteps := 200000) (disch := first | omega | (simp; done) | fail) [wrapI, leT, leF, ltT, ltF, eqF, nleT, nleF, nltT, nltF, hz1, hz2, hs1]; rfl) (by exact zeroText_spec z (by omega)) (by simp) (by simp (maxSteps := 200000) (disch := first | omega | (simp; done) | fail) [wrapI, leT, leF, ltT, ltF, eqF, nleT, nleF, nltT, nltF, hz1, hz2, hs1]; rfl)) ?_
      refine RegO.opN 2 (by simp (maxSteps := 200000) (disch := first | omega | (simp; done) | fail) [wrapI, leT, leF, ltT, ltF, eqF, nleT, nleF, nltT, nltF, hz1, hz2, hs1]; rfl) ?_
      refine RegO.nil ?_
      refine DW.ret ?_
      simp [Try.results46]
theorem askGood_spec (a : Ask) : Spec Try.prog 18 [raAsk a] [none] [db (askGood a)] [raAsk a] := by
  refine Spec.intro Try.func18 rfl rfl Try.ntmps18 rfl (by simp) ?_
  refine DW.seq ?_
  refine DW.reg (by simp (maxSteps := 200000) (disch := first | omega | (simp; done) | fail) [wrapI, leT, leF, ltT, ltF, eqF, nleT, nleF, nltT, nltF]; rfl) ?_
  refine DW.seq ?_
  cases g0 : inB a.Kind 1 11
  · have hres : askGood a = false := by simp [askGood, g0]
    rw [hres]
    refine DW.regs ?_
    refine RegO.opN 2 (by simp (maxSteps := 200000) (disch := first | omega | (simp; done) | fail) [wrapI, leT, leF, ltT, ltF, eqF, nleT, nleF, nltT, nltF, g0]; rfl) ?_
    refine RegO.step rfl (OpStep.callA rfl (by simp (maxSteps := 200000) (disch := first | omega | (simp; done) | fail) [wrapI, leT, leF, ltT, ltF, eqF, nleT, nleF, nltT, nltF, g0]; exact ⟨rfl, rfl⟩) (by simp (maxSteps := 200000) (disch := first | omega | (simp; done) | fail) [wrapI, leT, leF, ltT, ltF, eqF, nleT, nleF, nltT, nltF, g0]; rfl) (by exact l01In_spec _ _ _) (by simp) (by simp (maxSteps := 200000) (disch := first | omega | (simp; done) | fail) [wrapI, leT, leF, ltT, ltF, eqF, nleT, nleF, nltT, nltF, g0]; rfl)) ?_
    refine RegO.opN 7 (by simp (maxSteps := 200000) (disch := first | omega | (simp; done) | fail) [wrapI, leT, leF, ltT, ltF, eqF, nleT, nleF, nltT, nltF, g0]; rfl) ?_
    refine RegO.nil ?_
    refine DW.ret ?_
    simp [Try.results18]
  · have hres : askGood a = decide ((a.Text.size : Int) ≤ 200) := by simp [askGood, g0]
    rw [hres]
    refine DW.regs ?_
    refine RegO.opN 2 (by simp (maxSteps := 200000) (disch := first | omega | (simp; done) | fail) [wrapI, leT, leF, ltT, ltF, eqF, nleT, nleF, nltT, nltF, g0]; rfl) ?_
    refine RegO.step rfl (OpStep.callA rfl (by simp (maxSteps := 200000) (disch := first | omega | (simp; done) | fail) [wrapI, leT, leF, ltT, ltF, eqF, nleT, nleF, nltT, nltF, g0]; exact ⟨rfl, rfl⟩) (by simp (maxSteps := 200000) (disch := first | omega | (simp; done) | fail) [wrapI, leT, leF, ltT, ltF, eqF, nleT, nleF, nltT, nltF, g0]; rfl) (by exact l01In_spec _ _ _) (by simp) (by simp (maxSteps := 200000) (disch := first | omega | (simp; done) | fail) [wrapI, leT, leF, ltT, ltF, eqF, nleT, nleF, nltT, nltF, g0]; rfl)) ?_
    refine RegO.opN 7 (by simp (maxSteps := 200000) (disch := first | omega | (simp; done) | fail) [wrapI, leT, leF, ltT, ltF, eqF, nleT, nleF, nltT, nltF, g0]; rfl) ?_
    refine RegO.nil ?_
    refine DW.ret ?_
    simp [Try.results18]
theorem fails_spec (c : Int) : Spec Try.prog 19 [ri c] [some 5] (Result.d (failsR c)) [ri c] := by
  refine Spec.intro Try.func19 rfl rfl Try.ntmps19 rfl (by simp) ?_
  refine DW.seq ?_
  refine DW.reg (by simp (maxSteps := 200000) (disch := first | omega | (simp; done) | fail) [wrapI, leT, leF, ltT, ltF, eqF, nleT, nleF, nltT, nltF]; rfl) ?_
  refine DW.seq ?_
  refine DW.reg (by simp; rfl) ?_
  refine DW.ghost (Ghost.wide 2 [4] 1 (by simp; rfl) (by simp)) ?_
  refine DW.ret ?_
  simp [Try.results19, failsR, Result.d]
theorem placeFor_spec (l : List Item) (p : ByteArray) (hl : l.length ≤ 1048576) : Spec Try.prog 36 [raV l, rs p] [none] [di (placeFor l p)] [raV l, rs p] := by
  refine Spec.intro Try.func36 rfl rfl Try.ntmps36 rfl (by simp) ?_
  have hbd := splitP_bd p
  obtain ⟨ns, code, hns⟩ : ∃ ns code, splitP p = (ns, code) := ⟨_, _, rfl⟩
  have hsp := splitPath_spec p
  have hLU : placeFor l p = if code ≠ 0 then code else if p = rootB then 6 else if lookUp l (parentOf p) ≠ 0 then lookUp l (parentOf p) else if isDirV l (parentOf p) = false then 4 else if 0 ≤ itemAt l p then 6 else if 6 ≤ (kidsOf l (parentOf p)).length then 7 else 0 := by unfold placeFor; rw [hns]
  rw [hns] at hsp hbd
  simp only at hsp hbd
  have hT := rD_take1_ByteArray ns
  have hTl := rD_len_ByteArray ns
  rw [hLU]
  clear hLU
  have hpar := parentOf_spec p
  generalize parentOf p = up at *
  refine DW.seq ?_
  refine DW.reg (by simp (maxSteps := 200000) (disch := first | omega | (simp; done) | fail) [wrapI, leT, leF, ltT, ltF, eqF, nleT, nleF, nltT, nltF, hT, hTl]; rfl) ?_
  refine DW.seq ?_
  refine DW.regs ?_
  refine RegO.opN 1 (by simp (maxSteps := 200000) (disch := first | omega | (simp; done) | fail) [wrapI, leT, leF, ltT, ltF, eqF, nleT, nleF, nltT, nltF, hT, hTl]; rfl) ?_
  refine RegO.step rfl (OpStep.callA rfl (by simp (maxSteps := 200000) (disch := first | omega | (simp; done) | fail) [wrapI, leT, leF, ltT, ltF, eqF, nleT, nleF, nltT, nltF, hT, hTl]; exact ⟨rfl, rfl⟩) (by simp (maxSteps := 200000) (disch := first | omega | (simp; done) | fail) [wrapI, leT, leF, ltT, ltF, eqF, nleT, nleF, nltT, nltF, hT, hTl]; rfl) (by exact hsp) (by simp) (by simp (maxSteps := 200000) (disch := first | omega | (simp; done) | fail) [wrapI, leT, leF, ltT, ltF, eqF, nleT, nleF, nltT, nltF, hT, hTl]; rfl)) ?_
  refine RegO.opN 5 (by simp (maxSteps := 200000) (disch := first | omega | (simp; done) | fail) [wrapI, leT, leF, ltT, ltF, eqF, nleT, nleF, nltT, nltF, hT, hTl]; rfl) ?_
  refine RegO.nil ?_
  refine DW.norm [(1, _), (2, _), (6, _)] [(2, _)] [] (by simp [hT, hTl]; exact ⟨rfl, rfl, rfl⟩) (by simp [hT, hTl]; rfl) (by simp [hT, hTl]) (by rfl) ?_
  refine DW.seq ?_
  refine DW.seq ?_
  refine DW.reg (by simp (maxSteps := 200000) (disch := first | omega | (simp; done) | fail) [wrapI, leT, leF, ltT, ltF, eqF, nleT, nleF, nltT, nltF, hT, hTl]; rfl) ?_
  refine DW.condB (by simp (maxSteps := 200000) (disch := first | omega | (simp; done) | fail) [wrapI, leT, leF, ltT, ltF, eqF, nleT, nleF, nltT, nltF, hT, hTl]; exact rfl) (fun hc0 => ?_) (fun hc0 => ?_)
  · have hy0 : code ≠ 0 := by simpa using hc0
    rw [if_pos hy0]
    refine DW.seq ?_
    refine DW.reg (by simp (maxSteps := 200000) (disch := first | omega | (simp; done) | fail) [wrapI, leT, leF, ltT, ltF, eqF, nleT, nleF, nltT, nltF, hT, hTl]; rfl) ?_
    refine DW.ret ?_
    simp [Try.results36]
  · have hy0 : ¬ code ≠ 0 := by simpa using hc0
    rw [if_neg hy0]
    refine DW.skip ?_
    refine DW.seq ?_
    refine DW.seq ?_
    refine DW.reg (by simp (maxSteps := 200000) (disch := first | omega | (simp; done) | fail) [wrapI, leT, leF, ltT, ltF, eqF, nleT, nleF, nltT, nltF, hT, hTl]; rfl) ?_
    refine DW.condB (by simp (maxSteps := 200000) (disch := first | omega | (simp; done) | fail) [wrapI, leT, leF, ltT, ltF, eqF, nleT, nleF, nltT, nltF, hT, hTl]; exact rfl) (fun hc1 => ?_) (fun hc1 => ?_)
    · have hy1 : p = rootB := by simpa [rootB_iff] using hc1
      rw [if_pos hy1]
      refine DW.seq ?_
      refine DW.reg (by simp (maxSteps := 200000) (disch := first | omega | (simp; done) | fail) [wrapI, leT, leF, ltT, ltF, eqF, nleT, nleF, nltT, nltF, hT, hTl]; rfl) ?_
      refine DW.ret ?_
      simp [Try.results36]
    · have hy1 : ¬ p = rootB := by simpa [rootB_iff] using hc1
      rw [if_neg hy1]
      refine DW.skip ?_
      refine DW.seq ?_
      refine DW.regs ?_
      refine RegO.opN 1 (by simp (maxSteps := 200000) (disch := first | omega | (simp; done) | fail) [wrapI, leT, leF, ltT, ltF, eqF, nleT, nleF, nltT, nltF, hT, hTl]; rfl) ?_
      refine RegO.step rfl (OpStep.callA rfl (by simp (maxSteps := 200000) (disch := first | omega | (simp; done) | fail) [wrapI, leT, leF, ltT, ltF, eqF, nleT, nleF, nltT, nltF, hT, hTl]; exact ⟨rfl, rfl⟩) (by simp (maxSteps := 200000) (disch := first | omega | (simp; done) | fail) [wrapI, leT, leF, ltT, ltF, eqF, nleT, nleF, nltT, nltF, hT, hTl]; rfl) (by exact hpar) (by simp) (by simp (maxSteps := 200000) (disch := first | omega | (simp; done) | fail) [wrapI, leT, leF, ltT, ltF, eqF, nleT, nleF, nltT, nltF, hT, hTl]; rfl)) ?_
      refine RegO.opN 1 (by simp (maxSteps := 200000) (disch := first | omega | (simp; done) | fail) [wrapI, leT, leF, ltT, ltF, eqF, nleT, nleF, nltT, nltF, hT, hTl]; rfl) ?_
      refine RegO.nil ?_
      refine DW.seq ?_
      refine DW.regs ?_
      refine RegO.opN 2 (by simp (maxSteps := 200000) (disch := first | omega | (simp; done) | fail) [wrapI, leT, leF, ltT, ltF, eqF, nleT, nleF, nltT, nltF, hT, hTl]; rfl) ?_
      refine RegO.step rfl (OpStep.callA rfl (by simp (maxSteps := 200000) (disch := first | omega | (simp; done) | fail) [wrapI, leT, leF, ltT, ltF, eqF, nleT, nleF, nltT, nltF, hT, hTl]; exact ⟨rfl, rfl⟩) (by simp (maxSteps := 200000) (disch := first | omega | (simp; done) | fail) [wrapI, leT, leF, ltT, ltF, eqF, nleT, nleF, nltT, nltF, hT, hTl]; rfl) (by exact lookUp_spec l up (by omega)) (by simp) (by simp (maxSteps := 200000) (disch := first | omega | (simp; done) | fail) [wrapI, leT, leF, ltT, ltF, eqF, nleT, nleF, nltT, nltF, hT, hTl]; rfl)) ?_
      refine RegO.opN 1 (by simp (maxSteps := 200000) (disch := first | omega | (simp; done) | fail) [wrapI, leT, leF, ltT, ltF, eqF, nleT, nleF, nltT, nltF, hT, hTl]; rfl) ?_
      refine RegO.nil ?_
      refine DW.seq ?_
      refine DW.block ?_
      refine DW.seq ?_
      refine DW.reg (by simp (maxSteps := 200000) (disch := first | omega | (simp; done) | fail) [wrapI, leT, leF, ltT, ltF, eqF, nleT, nleF, nltT, nltF, hT, hTl]; rfl) ?_
      refine DW.condB (by simp (maxSteps := 200000) (disch := first | omega | (simp; done) | fail) [wrapI, leT, leF, ltT, ltF, eqF, nleT, nleF, nltT, nltF, hT, hTl]; exact rfl) (fun hc2 => ?_) (fun hc2 => ?_)
      · have hy2 : lookUp l up ≠ 0 := by simpa using hc2
        rw [if_pos hy2]
        refine DW.seq ?_
        refine DW.reg (by simp (maxSteps := 200000) (disch := first | omega | (simp; done) | fail) [wrapI, leT, leF, ltT, ltF, eqF, nleT, nleF, nltT, nltF, hT, hTl]; rfl) ?_
        refine DW.ret ?_
        simp [Try.results36]
      · have hy2 : ¬ lookUp l up ≠ 0 := by simpa using hc2
        rw [if_neg hy2]
        refine DW.seq ?_
        refine DW.regs ?_
        refine RegO.opN 2 (by simp (maxSteps := 200000) (disch := first | omega | (simp; done) | fail) [wrapI, leT, leF, ltT, ltF, eqF, nleT, nleF, nltT, nltF, hT, hTl]; rfl) ?_
        refine RegO.step rfl (OpStep.callA rfl (by simp (maxSteps := 200000) (disch := first | omega | (simp; done) | fail) [wrapI, leT, leF, ltT, ltF, eqF, nleT, nleF, nltT, nltF, hT, hTl]; exact ⟨rfl, rfl⟩) (by simp (maxSteps := 200000) (disch := first | omega | (simp; done) | fail) [wrapI, leT, leF, ltT, ltF, eqF, nleT, nleF, nltT, nltF, hT, hTl]; rfl) (by exact dirV_spec l up (by omega)) (by simp) (by simp (maxSteps := 200000) (disch := first | omega | (simp; done) | fail) [wrapI, leT, leF, ltT, ltF, eqF, nleT, nleF, nltT, nltF, hT, hTl]; rfl)) ?_
        refine RegO.opN 2 (by simp (maxSteps := 200000) (disch := first | omega | (simp; done) | fail) [wrapI, leT, leF, ltT, ltF, eqF, nleT, nleF, nltT, nltF, hT, hTl]; rfl) ?_
        refine RegO.nil ?_
        refine DW.condB (by simp (maxSteps := 200000) (disch := first | omega | (simp; done) | fail) [wrapI, leT, leF, ltT, ltF, eqF, nleT, nleF, nltT, nltF, hT, hTl]; exact rfl) (fun hc3 => ?_) (fun hc3 => ?_)
        · have hy3 : isDirV l up = false := by simpa using hc3
          rw [if_pos hy3]
          refine DW.seq ?_
          refine DW.reg (by simp (maxSteps := 200000) (disch := first | omega | (simp; done) | fail) [wrapI, leT, leF, ltT, ltF, eqF, nleT, nleF, nltT, nltF, hT, hTl]; rfl) ?_
          refine DW.ret ?_
          simp [Try.results36]
        · have hy3 : ¬ isDirV l up = false := by simpa using hc3
          rw [if_neg hy3]
          refine DW.seq ?_
          refine DW.regs ?_
          refine RegO.opN 2 (by simp (maxSteps := 200000) (disch := first | omega | (simp; done) | fail) [wrapI, leT, leF, ltT, ltF, eqF, nleT, nleF, nltT, nltF, hT, hTl]; rfl) ?_
          refine RegO.step rfl (OpStep.callA rfl (by simp (maxSteps := 200000) (disch := first | omega | (simp; done) | fail) [wrapI, leT, leF, ltT, ltF, eqF, nleT, nleF, nltT, nltF, hT, hTl]; exact ⟨rfl, rfl⟩) (by simp (maxSteps := 200000) (disch := first | omega | (simp; done) | fail) [wrapI, leT, leF, ltT, ltF, eqF, nleT, nleF, nltT, nltF, hT, hTl]; rfl) (by exact itemAt_spec l p (by omega)) (by simp) (by simp (maxSteps := 200000) (disch := first | omega | (simp; done) | fail) [wrapI, leT, leF, ltT, ltF, eqF, nleT, nleF, nltT, nltF, hT, hTl]; rfl)) ?_
          refine RegO.opN 2 (by simp (maxSteps := 200000) (disch := first | omega | (simp; done) | fail) [wrapI, leT, leF, ltT, ltF, eqF, nleT, nleF, nltT, nltF, hT, hTl]; rfl) ?_
          refine RegO.nil ?_
          refine DW.condB (by simp (maxSteps := 200000) (disch := first | omega | (simp; done) | fail) [wrapI, leT, leF, ltT, ltF, eqF, nleT, nleF, nltT, nltF, hT, hTl]; exact rfl) (fun hc4 => ?_) (fun hc4 => ?_)
          · have hy4 : 0 ≤ itemAt l p := by simpa using hc4
            rw [if_pos hy4]
            refine DW.seq ?_
            refine DW.reg (by simp (maxSteps := 200000) (disch := first | omega | (simp; done) | fail) [wrapI, leT, leF, ltT, ltF, eqF, nleT, nleF, nltT, nltF, hT, hTl]; rfl) ?_
            refine DW.ret ?_
            simp [Try.results36]
          · have hy4 : ¬ 0 ≤ itemAt l p := by simpa using hc4
            rw [if_neg hy4]
            refine DW.seq ?_
            refine DW.regs ?_
            refine RegO.opN 2 (by simp (maxSteps := 200000) (disch := first | omega | (simp; done) | fail) [wrapI, leT, leF, ltT, ltF, eqF, nleT, nleF, nltT, nltF, hT, hTl]; rfl) ?_
            refine RegO.step rfl (OpStep.callA rfl (by simp (maxSteps := 200000) (disch := first | omega | (simp; done) | fail) [wrapI, leT, leF, ltT, ltF, eqF, nleT, nleF, nltT, nltF, hT, hTl]; exact ⟨rfl, rfl⟩) (by simp (maxSteps := 200000) (disch := first | omega | (simp; done) | fail) [wrapI, leT, leF, ltT, ltF, eqF, nleT, nleF, nltT, nltF, hT, hTl]; rfl) (by exact kidsOf_spec l up hl) (by simp) (by simp (maxSteps := 200000) (disch := first | omega | (simp; done) | fail) [wrapI, leT, leF, ltT, ltF, eqF, nleT, nleF, nltT, nltF, hT, hTl]; rfl)) ?_
            refine RegO.opN 3 (by simp (maxSteps := 200000) (disch := first | omega | (simp; done) | fail) [wrapI, leT, leF, ltT, ltF, eqF, nleT, nleF, nltT, nltF, hT, hTl]; rfl) ?_
            refine RegO.nil ?_
            refine DW.condB (by simp (maxSteps := 200000) (disch := first | omega | (simp; done) | fail) [wrapI, leT, leF, ltT, ltF, eqF, nleT, nleF, nltT, nltF, hT, hTl]; exact rfl) (fun hc5 => ?_) (fun hc5 => ?_)
            · have hy5 : 6 ≤ (kidsOf l up).length := by
                have : (6 : Int) ≤ (kidsOf l up).length := by simpa using hc5
                omega
              rw [if_pos hy5]
              refine DW.seq ?_
              refine DW.reg (by simp (maxSteps := 200000) (disch := first | omega | (simp; done) | fail) [wrapI, leT, leF, ltT, ltF, eqF, nleT, nleF, nltT, nltF, hT, hTl]; rfl) ?_
              refine DW.ret ?_
              simp [Try.results36]
            · have hy5 : ¬ 6 ≤ (kidsOf l up).length := by
                have : ¬ (6 : Int) ≤ (kidsOf l up).length := by simpa using hc5
                omega
              rw [if_neg hy5]
              refine DW.skip ?_
              refine DW.seq ?_
              refine DW.reg (by simp (maxSteps := 200000) (disch := first | omega | (simp; done) | fail) [wrapI, leT, leF, ltT, ltF, eqF, nleT, nleF, nltT, nltF, hT, hTl]; rfl) ?_
              refine DW.ret ?_
              simp [Try.results36]
end Go.Proofs.Ytciieaidbiejmaa.DM
