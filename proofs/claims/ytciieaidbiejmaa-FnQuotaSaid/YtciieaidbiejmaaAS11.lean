import Derived.Test.YtciieaidbiejmaaAS7
import Derived.Test.YtciieaidbiejmaaAS8
namespace Go.Proofs.Ytciieaidbiejmaa.DM
set_option linter.unusedVariables false
set_option linter.unusedSimpArgs false
set_option maxRecDepth 4000
set_option maxHeartbeats 8000000
theorem renameM_spec (l : List Item) (a : Ask) (hs : Small l) (hto : a.To.size ≤ 2 ^ 40) : Spec Try.prog 25 [raV l, raAsk a] [some 1, some 5] (dV (renameM l a).1 ++ Result.d (renameM l a).2) [raV l, raAsk a] := by
  refine Spec.intro Try.func25 rfl rfl Try.ntmps25 rfl (by simp) ?_
  have hl := hs.1
  have hpl := placeFor_spec l a.To hl
  obtain ⟨pc, hpc⟩ : ∃ x, placeFor l a.To = x := ⟨_, rfl⟩
  rw [hpc] at hpl
  have hrm : renameM l a = if a.Path = rootB then (l, failsR 9) else if isUnder a.To a.Path = true then (l, failsR 11) else if pc ≠ 0 ∧ (pc ≠ 7 ∨ parentOf a.To ≠ parentOf a.Path) then (l, failsR pc) else (movedI l a.Path a.To, failsR 0) := by unfold renameM; rw [hpc]
  rw [hrm]
  clear hrm hpc
  refine DW.seq ?_
  refine DW.reg (by simp (maxSteps := 200000) (disch := first | omega | (simp; done) | fail) [wrapI, leT, leF, ltT, ltF, eqF, nleT, nleF, nltT, nltF]; rfl) ?_
  refine DW.seq ?_
  refine DW.regs ?_
  refine RegO.opN 1 (by simp; rfl) ?_
  refine RegO.step rfl (OpStep.callA rfl (by simp; exact ⟨rfl, rfl⟩) (by simp; rfl) (by exact same_spec l hl) (by simp) (by simp; rfl)) ?_
  refine RegO.opN 2 (by simp; rfl) ?_
  refine RegO.nil ?_
  refine DW.norm [(2, _), (3, _), (4, _), (5, _), (6, _)] [(2, _), (3, _), (4, _), (5, _), (6, _)] [] (by simp; exact ⟨rfl, rfl, rfl, rfl, rfl⟩) (by simp; exact ⟨rfl, rfl, rfl, rfl, rfl⟩) (by simp) (by rfl) ?_
  refine DW.seq ?_
  refine DW.seq ?_
  refine DW.reg (by simp (maxSteps := 200000) (disch := first | omega | (simp; done) | fail) [wrapI, leT, leF, ltT, ltF, eqF, nleT, nleF, nltT, nltF]; rfl) ?_
  refine DW.norm [(2, _), (3, _), (4, _), (5, _), (6, _), (12, _)] [(2, _), (3, _), (4, _), (5, _), (6, _)] [] (by simp; exact ⟨rfl, rfl, rfl, rfl, rfl, rfl⟩) (by simp; exact ⟨rfl, rfl, rfl, rfl, rfl⟩) (by simp) (by rfl) ?_
  refine DW.condB (by simp (maxSteps := 200000) (disch := first | omega | (simp; done) | fail) [wrapI, leT, leF, ltT, ltF, eqF, nleT, nleF, nltT, nltF]; exact rfl) (fun hc0 => ?_) (fun hc0 => ?_)
  · have hr : a.Path = rootB := by simpa [rootB_iff] using hc0
    rw [if_pos hr]
    refine DW.seq ?_
    refine DW.drawn mixed (by kernel_rfl) ?_
    refine RegD.addN 1 (by simp; (first | (simp (disch := omega) only [wrapI, ltF, if_false]; done) | (simp (disch := omega) only [wrapI, ltF, if_false]; first | exact ⟨rfl, rfl⟩ | rfl) | skip); (first | done | exact ⟨rfl, rfl⟩ | rfl)) ?_
    refine RegD.cert (Cert.callHA rfl (by simp) rfl (by decide) (by simp; exact ⟨rfl, rfl⟩) (by simp; rfl) (by exact fails_spec 9) rfl (by simp) (by simp) (by simp; rfl) rfl) ?_
    refine RegD.heavyF (by simp) (by simp; rfl) ?_
    refine RegD.heavyF (by simp) (by simp; rfl) ?_
    refine RegD.nil ⟨by kernel_rfl, ?_⟩
    refine DW.ret ?_
    simp [Try.results25, failsR]
  · have hr : ¬ a.Path = rootB := by simpa [rootB_iff] using hc0
    rw [if_neg hr]
    refine DW.skip ?_
    refine DW.seq ?_
    refine DW.seq ?_
    refine DW.regs ?_
    refine RegO.opN 4 (by simp (maxSteps := 200000) (disch := first | omega | (simp; done) | fail) [wrapI, leT, leF, ltT, ltF, eqF, nleT, nleF, nltT, nltF]; rfl) ?_
    refine RegO.step rfl (OpStep.callA rfl (by simp (maxSteps := 200000) (disch := first | omega | (simp; done) | fail) [wrapI, leT, leF, ltT, ltF, eqF, nleT, nleF, nltT, nltF]; exact ⟨rfl, rfl⟩) (by simp (maxSteps := 200000) (disch := first | omega | (simp; done) | fail) [wrapI, leT, leF, ltT, ltF, eqF, nleT, nleF, nltT, nltF]; rfl) (by exact isUnder_spec a.To a.Path) (by simp) (by simp (maxSteps := 200000) (disch := first | omega | (simp; done) | fail) [wrapI, leT, leF, ltT, ltF, eqF, nleT, nleF, nltT, nltF]; rfl)) ?_
    refine RegO.nil ?_
    refine DW.norm [(2, _), (3, _), (4, _), (5, _), (6, _), (19, _)] [(2, _), (3, _), (4, _), (5, _), (6, _)] [] (by simp; exact ⟨rfl, rfl, rfl, rfl, rfl, rfl⟩) (by simp; exact ⟨rfl, rfl, rfl, rfl, rfl⟩) (by simp) (by rfl) ?_
    refine DW.condB (by simp (maxSteps := 200000) (disch := first | omega | (simp; done) | fail) [wrapI, leT, leF, ltT, ltF, eqF, nleT, nleF, nltT, nltF]; exact rfl) (fun hc1 => ?_) (fun hc1 => ?_)
    · have hu : isUnder a.To a.Path = true := by simpa using hc1
      rw [if_pos hu]
      refine DW.seq ?_
      refine DW.drawn mixed (by kernel_rfl) ?_
      refine RegD.addN 1 (by simp; (first | (simp (disch := omega) only [wrapI, ltF, if_false]; done) | (simp (disch := omega) only [wrapI, ltF, if_false]; first | exact ⟨rfl, rfl⟩ | rfl) | skip); (first | done | exact ⟨rfl, rfl⟩ | rfl)) ?_
      refine RegD.cert (Cert.callHA rfl (by simp) rfl (by decide) (by simp; exact ⟨rfl, rfl⟩) (by simp; rfl) (by exact fails_spec 11) rfl (by simp) (by simp) (by simp; rfl) rfl) ?_
      refine RegD.heavyF (by simp) (by simp; rfl) ?_
      refine RegD.heavyF (by simp) (by simp; rfl) ?_
      refine RegD.nil ⟨by kernel_rfl, ?_⟩
      refine DW.ret ?_
      simp [Try.results25, failsR]
    · have hu : ¬ isUnder a.To a.Path = true := by simpa using hc1
      rw [if_neg hu]
      refine DW.skip ?_
      refine DW.seq ?_
      refine DW.regs ?_
      refine RegO.opN 3 (by simp (maxSteps := 200000) (disch := first | omega | (simp; done) | fail) [wrapI, leT, leF, ltT, ltF, eqF, nleT, nleF, nltT, nltF]; rfl) ?_
      refine RegO.step rfl (OpStep.callA rfl (by simp (maxSteps := 200000) (disch := first | omega | (simp; done) | fail) [wrapI, leT, leF, ltT, ltF, eqF, nleT, nleF, nltT, nltF]; exact ⟨rfl, rfl⟩) (by simp (maxSteps := 200000) (disch := first | omega | (simp; done) | fail) [wrapI, leT, leF, ltT, ltF, eqF, nleT, nleF, nltT, nltF]; rfl) (by exact hpl) (by simp) (by simp (maxSteps := 200000) (disch := first | omega | (simp; done) | fail) [wrapI, leT, leF, ltT, ltF, eqF, nleT, nleF, nltT, nltF]; rfl)) ?_
      refine RegO.opN 1 (by simp (maxSteps := 200000) (disch := first | omega | (simp; done) | fail) [wrapI, leT, leF, ltT, ltF, eqF, nleT, nleF, nltT, nltF]; rfl) ?_
      refine RegO.nil ?_
      refine DW.norm [(2, _), (3, _), (4, _), (5, _), (6, _), (7, _)] [(2, _), (3, _), (4, _), (5, _), (6, _)] [] (by simp; exact ⟨rfl, rfl, rfl, rfl, rfl, rfl⟩) (by simp; exact ⟨rfl, rfl, rfl, rfl, rfl⟩) (by simp) (by rfl) ?_
      refine DW.seq ?_
      refine DW.seq ?_
      have hsp : pc = 0 ∨ (¬ pc = 0 ∧ ¬ pc = 7) ∨ (pc = 7 ∧ ¬ parentOf a.To = parentOf a.Path) ∨ (pc = 7 ∧ parentOf a.To = parentOf a.Path) := by
        by_cases h0 : pc = 0
        · exact .inl h0
        · by_cases h7 : pc = 7
          · by_cases hp : parentOf a.To = parentOf a.Path
            · exact .inr (.inr (.inr ⟨h7, hp⟩))
            · exact .inr (.inr (.inl ⟨h7, hp⟩))
          · exact .inr (.inl ⟨h0, h7⟩)
      rcases hsp with g0 | ⟨g0, g1⟩ | ⟨g0, g1⟩ | ⟨g0, g1⟩
      · subst g0
        rw [if_neg (fun h => h.1 rfl)]
        refine DW.drawn mixed (by kernel_rfl) ?_
        refine RegD.addN 15 (by simp; (first | (simp (disch := omega) only [wrapI, ltF, if_false]; done) | (simp (disch := omega) only [wrapI, ltF, if_false]; first | exact ⟨rfl, rfl⟩ | rfl) | skip); (first | done | exact ⟨rfl, rfl⟩ | rfl)) ?_
        refine RegD.nil ⟨by kernel_rfl, ?_⟩
        refine DW.norm [(2, _), (3, _), (4, _), (5, _), (6, _), (7, _), (40, _)] [(2, _), (3, _), (4, _), (5, _), (6, _)] [] (by simp; exact ⟨rfl, rfl, rfl, rfl, rfl, rfl, rfl⟩) (by simp; exact ⟨rfl, rfl, rfl, rfl, rfl⟩) (by simp) (by rfl) ?_
        refine DW.condF (by simp (maxSteps := 200000) (disch := first | omega | (simp; done) | fail) [wrapI, leT, leF, ltT, ltF, eqF, nleT, nleF, nltT, nltF]) ?_
        refine DW.skip ?_
        refine DW.seq ?_
        refine DW.regs ?_
        refine RegO.opN 5 (by simp; rfl) ?_
        refine RegO.step rfl (OpStep.callA rfl (by simp; exact ⟨rfl, rfl⟩) (by simp; rfl) (by exact movedItems_spec l a.Path a.To hl (fun x hx => (hs.2 x hx).1) hto) (by simp) (by simp; rfl)) ?_
        refine RegO.opN 3 (by simp; rfl) ?_
        refine RegO.nil ?_
        refine DW.ghost (Ghost.wide 5 [4] 1 (by simp; rfl) (by simp)) ?_
        refine DW.ret ?_
        simp [Try.results25, failsR]
      · have g0b : (pc == 0) = false := by simpa using g0
        have g1b : (pc == 7) = false := by simpa using g1
        have g0c : (pc != 0) = true := by simpa using g0
        have g1c : (pc != 7) = true := by simpa using g1
        rw [if_pos ⟨g0, .inl g1⟩]
        refine DW.drawn mixed (by kernel_rfl) ?_
        refine RegD.addN 15 (by simp [g0b, g1b, g0c, g1c]; (first | (simp (disch := omega) only [wrapI, ltF, if_false]; done) | (simp (disch := omega) only [wrapI, ltF, if_false]; first | exact ⟨rfl, rfl⟩ | rfl) | skip); (first | done | exact ⟨rfl, rfl⟩ | rfl)) ?_
        refine RegD.nil ⟨by kernel_rfl, ?_⟩
        refine DW.norm [(2, _), (3, _), (4, _), (5, _), (6, _), (7, _), (40, _)] [(2, _), (3, _), (4, _), (5, _), (6, _)] [] (by simp [g0b, g1b, g0c, g1c]; exact ⟨rfl, rfl, rfl, rfl, rfl, rfl, rfl⟩) (by simp [g0b, g1b, g0c, g1c]; exact ⟨rfl, rfl, rfl, rfl, rfl⟩) (by simp [g0b, g1b, g0c, g1c]) (by rfl) ?_
        refine DW.condT (by simp (maxSteps := 200000) (disch := first | omega | (simp; done) | fail) [wrapI, leT, leF, ltT, ltF, eqF, nleT, nleF, nltT, nltF, g0b, g1b, g0c, g1c]) ?_
        refine DW.seq ?_
        refine DW.drawn mixed (by kernel_rfl) ?_
        refine RegD.addN 2 (by simp [g0b, g1b, g0c, g1c]; (first | (simp (disch := omega) only [wrapI, ltF, if_false]; done) | (simp (disch := omega) only [wrapI, ltF, if_false]; first | exact ⟨rfl, rfl⟩ | rfl) | skip); (first | done | exact ⟨rfl, rfl⟩ | rfl)) ?_
        refine RegD.cert (Cert.callHA rfl (by simp) rfl (by decide) (by simp [g0b, g1b, g0c, g1c]; exact ⟨rfl, rfl⟩) (by simp [g0b, g1b, g0c, g1c]; rfl) (by exact fails_spec pc) rfl (by simp) (by simp) (by simp; rfl) rfl) ?_
        refine RegD.heavyF (by simp) (by simp [g0b, g1b, g0c, g1c]; rfl) ?_
        refine RegD.heavyF (by simp) (by simp [g0b, g1b, g0c, g1c]; rfl) ?_
        refine RegD.nil ⟨by kernel_rfl, ?_⟩
        refine DW.ret ?_
        simp [Try.results25, failsR]
      · subst g0
        rw [if_pos ⟨by decide, .inr g1⟩]
        refine DW.drawn mixed (by kernel_rfl) ?_
        refine RegD.addN 8 (by simp [g1]; (first | (simp (disch := omega) only [wrapI, ltF, if_false]; done) | (simp (disch := omega) only [wrapI, ltF, if_false]; first | exact ⟨rfl, rfl⟩ | rfl) | skip); (first | done | exact ⟨rfl, rfl⟩ | rfl)) ?_
        refine RegD.cert (Cert.callA rfl (by simp [g1]) rfl (by decide) (by simp [g1]; exact ⟨rfl, rfl⟩) (by simp [g1]; rfl) (by exact parentOf_spec _) rfl (by simp) (by simp; rfl) rfl) ?_
        refine RegD.addN 2 (by simp [g1]; (first | (simp (disch := omega) only [wrapI, ltF, if_false]; done) | (simp (disch := omega) only [wrapI, ltF, if_false]; first | exact ⟨rfl, rfl⟩ | rfl) | skip); (first | done | exact ⟨rfl, rfl⟩ | rfl)) ?_
        refine RegD.cert (Cert.callA rfl (by simp [g1]) rfl (by decide) (by simp [g1]; exact ⟨rfl, rfl⟩) (by simp [g1]; rfl) (by exact parentOf_spec _) rfl (by simp) (by simp; rfl) rfl) ?_
        refine RegD.addN 3 (by simp [g1]; (first | (simp (disch := omega) only [wrapI, ltF, if_false]; done) | (simp (disch := omega) only [wrapI, ltF, if_false]; first | exact ⟨rfl, rfl⟩ | rfl) | skip); (first | done | exact ⟨rfl, rfl⟩ | rfl)) ?_
        refine RegD.nil ⟨by kernel_rfl, ?_⟩
        refine DW.norm [(2, _), (3, _), (4, _), (5, _), (6, _), (7, _), (40, _)] [(2, _), (3, _), (4, _), (5, _), (6, _)] [] (by simp [g1]; exact ⟨rfl, rfl, rfl, rfl, rfl, rfl, rfl⟩) (by simp [g1]; exact ⟨rfl, rfl, rfl, rfl, rfl⟩) (by simp [g1]) (by rfl) ?_
        refine DW.condT (by simp (maxSteps := 200000) (disch := first | omega | (simp; done) | fail) [wrapI, leT, leF, ltT, ltF, eqF, nleT, nleF, nltT, nltF, g1]) ?_
        refine DW.seq ?_
        refine DW.drawn mixed (by kernel_rfl) ?_
        refine RegD.addN 2 (by simp [g1]; (first | (simp (disch := omega) only [wrapI, ltF, if_false]; done) | (simp (disch := omega) only [wrapI, ltF, if_false]; first | exact ⟨rfl, rfl⟩ | rfl) | skip); (first | done | exact ⟨rfl, rfl⟩ | rfl)) ?_
        refine RegD.cert (Cert.callHA rfl (by simp) rfl (by decide) (by simp [g1]; exact ⟨rfl, rfl⟩) (by simp [g1]; rfl) (by exact fails_spec 7) rfl (by simp) (by simp) (by simp; rfl) rfl) ?_
        refine RegD.heavyF (by simp) (by simp [g1]; rfl) ?_
        refine RegD.heavyF (by simp) (by simp [g1]; rfl) ?_
        refine RegD.nil ⟨by kernel_rfl, ?_⟩
        refine DW.ret ?_
        simp [Try.results25, failsR]
      · subst g0
        rw [if_neg (fun h => h.2.elim (fun h => h rfl) (fun h => h g1))]
        refine DW.drawn mixed (by kernel_rfl) ?_
        refine RegD.addN 8 (by simp [g1]; (first | (simp (disch := omega) only [wrapI, ltF, if_false]; done) | (simp (disch := omega) only [wrapI, ltF, if_false]; first | exact ⟨rfl, rfl⟩ | rfl) | skip); (first | done | exact ⟨rfl, rfl⟩ | rfl)) ?_
        refine RegD.cert (Cert.callA rfl (by simp [g1]) rfl (by decide) (by simp [g1]; exact ⟨rfl, rfl⟩) (by simp [g1]; rfl) (by exact parentOf_spec _) rfl (by simp) (by simp; rfl) rfl) ?_
        refine RegD.addN 2 (by simp [g1]; (first | (simp (disch := omega) only [wrapI, ltF, if_false]; done) | (simp (disch := omega) only [wrapI, ltF, if_false]; first | exact ⟨rfl, rfl⟩ | rfl) | skip); (first | done | exact ⟨rfl, rfl⟩ | rfl)) ?_
        refine RegD.cert (Cert.callA rfl (by simp [g1]) rfl (by decide) (by simp [g1]; exact ⟨rfl, rfl⟩) (by simp [g1]; rfl) (by exact parentOf_spec _) rfl (by simp) (by simp; rfl) rfl) ?_
        refine RegD.addN 3 (by simp [g1]; (first | (simp (disch := omega) only [wrapI, ltF, if_false]; done) | (simp (disch := omega) only [wrapI, ltF, if_false]; first | exact ⟨rfl, rfl⟩ | rfl) | skip); (first | done | exact ⟨rfl, rfl⟩ | rfl)) ?_
        refine RegD.nil ⟨by kernel_rfl, ?_⟩
        refine DW.norm [(2, _), (3, _), (4, _), (5, _), (6, _), (7, _), (40, _)] [(2, _), (3, _), (4, _), (5, _), (6, _)] [] (by simp [g1]; exact ⟨rfl, rfl, rfl, rfl, rfl, rfl, rfl⟩) (by simp [g1]; exact ⟨rfl, rfl, rfl, rfl, rfl⟩) (by simp [g1]) (by rfl) ?_
        refine DW.condF (by simp (maxSteps := 200000) (disch := first | omega | (simp; done) | fail) [wrapI, leT, leF, ltT, ltF, eqF, nleT, nleF, nltT, nltF, g1]) ?_
        refine DW.skip ?_
        refine DW.seq ?_
        refine DW.regs ?_
        refine RegO.opN 5 (by simp [g1]; rfl) ?_
        refine RegO.step rfl (OpStep.callA rfl (by simp [g1]; exact ⟨rfl, rfl⟩) (by simp [g1]; rfl) (by exact movedItems_spec l a.Path a.To hl (fun x hx => (hs.2 x hx).1) hto) (by simp) (by simp [g1]; rfl)) ?_
        refine RegO.opN 3 (by simp [g1]; rfl) ?_
        refine RegO.nil ?_
        refine DW.ghost (Ghost.wide 5 [4] 1 (by simp; rfl) (by simp)) ?_
        refine DW.ret ?_
        simp [Try.results25, failsR]
end Go.Proofs.Ytciieaidbiejmaa.DM
