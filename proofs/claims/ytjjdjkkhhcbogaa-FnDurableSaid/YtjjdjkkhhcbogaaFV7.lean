import Derived.Test.YtjjdjkkhhcbogaaFW15
import Derived.Test.YtjjdjkkhhcbogaaDD
namespace Go.Proofs.Ytjjdjkkhhcbogaa.DM
set_option linter.unusedVariables false
set_option linter.unusedSimpArgs false
set_option maxRecDepth 4000
set_option maxHeartbeats 8000000
abbrev stepV (c : Step) : List Value := [.int .i64 c.Kind, .int .i64 c.At, .string c.Word]
def eqSt (a b : Step) : Bool := a.Kind == b.Kind && (a.At == b.At && (a.Word == b.Word && true))
theorem eqSt_refl (a : Step) : eqSt a a = true := by
  have h : (a.Word == a.Word) = true := by first | exact beq_self_eq_true _ | (show (a.Word.data == a.Word.data) = true; simp)
  simp [eqSt, h]
theorem eqStep_run (a b : Step) (dp : Nat) (w : Go.World) : (Op.equalIn (dp + 2) 34 (.agg (stepV a).toArray) (.agg (stepV b).toArray)).run Try.prog w = .ok (eqSt a b) w := by
  refine eqA_of Try.underlying34 (by kernel_rfl) ?_
  refine eqf_cons rfl (by rfl) (by rfl) (eqI_of Try.underlying3) ?_
  refine eqf_cons rfl (by rfl) (by rfl) (eqI_of Try.underlying3) ?_
  refine eqf_cons rfl (by rfl) (by rfl) (eqT_of Try.underlying9) ?_
  exact eqf_nil
theorem sameSteps_spec (l : List Step) (hl : l.length < 2 ^ 40) : Spec Try.prog 39 [ra l, ra l] [none] [db true] [ra l, ra l] := by
  refine Spec.intro Try.func39 rfl rfl Try.ntmps39 rfl (by simp) ?_
  refine DW.seq ?_
  refine DW.reg (by simp (maxSteps := 200000) (disch := first | omega | (simp; done) | fail) [wrapI, leT, leF, ltT, ltF, eqF, nleT, nleF, nltT, nltF]; rfl) ?_
  refine DW.seq ?_
  refine DW.seq ?_
  refine DW.reg (by simp (maxSteps := 200000) (disch := first | omega | (simp; done) | fail) [wrapI, leT, leF, ltT, ltF, eqF, nleT, nleF, nltT, nltF]; rfl) ?_
  refine DW.condF (by simp (maxSteps := 200000) (disch := first | omega | (simp; done) | fail) [wrapI, leT, leF, ltT, ltF, eqF, nleT, nleF, nltT, nltF]) ?_
  refine DW.skip ?_
  refine DW.seq ?_
  refine DW.seq ?_
  refine DW.reg (by simp (maxSteps := 200000) (disch := first | omega | (simp; done) | fail) [wrapI, leT, leF, ltT, ltF, eqF, nleT, nleF, nltT, nltF]; rfl) ?_
  refine DW.block ?_
  refine DW.loopS (α := Nat) (fun i => i ≤ l.length) (fun i => l.length - i) (fun i => [(5, vi i)]) (fun i => []) [(0, _), (1, _)] [] [] 0 (Nat.zero_le _) (by simp; exact ⟨rfl, rfl⟩) (by simp) (by simp) (by rfl) ?_
  intro i hi
  refine DW.seq ?_
  refine DW.seq ?_
  refine DW.reg (by simp (maxSteps := 200000) (disch := first | omega | (simp; done) | fail) [wrapI, leT, leF, ltT, ltF, eqF, nleT, nleF, nltT, nltF]; rfl) ?_
  refine DW.condB (by simp (maxSteps := 200000) (disch := first | omega | (simp; done) | fail) [wrapI, leT, leF, ltT, ltF, eqF, nleT, nleF, nltT, nltF]; exact rfl) (fun hc1 => ?_) (fun hc1 => ?_)
  · have hlt : i < l.length := by simpa using hc1
    have hlt' : (i : Int) < l.length := by omega
    have hd := rR_drop_Step l i hlt
    have hw := wr ((i : Int) + 1) (by omega) (by omega)
    generalize l[i] = c at hd
    have hcc := eqSt_refl c
    refine DW.skip ?_
    refine DW.seq ?_
    refine DW.block ?_
    refine DW.seq ?_
    refine DW.drawn mixed (by kernel_rfl) ?_
    refine RegD.addN 4 (by simp [hlt', hd, hw]; exact ⟨rfl, rfl⟩) ?_
    refine RegD.addN 4 (by simp [hlt', hd, hw]; exact ⟨rfl, rfl⟩) ?_
    refine RegD.cert (Cert.neS (stepV c) (stepV c) rfl (by simp) rfl (by decide) (by simp) (by simp) (by kernel_rfl) (fun w => eqStep_run _ _ 9998 w)) ?_
    refine RegD.nil ⟨by kernel_rfl, ?_⟩
    refine DW.condF (by simp (maxSteps := 200000) (disch := first | omega | (simp; done) | fail) [wrapI, leT, leF, ltT, ltF, eqF, nleT, nleF, nltT, nltF, hlt', hd, hw, hcc]) ?_
    refine DW.skip ?_
    refine DW.reg (by simp (maxSteps := 200000) (disch := first | omega | (simp; done) | fail) [wrapI, leT, leF, ltT, ltF, eqF, nleT, nleF, nltT, nltF, hlt', hd, hw]; rfl) ?_
    exact ⟨i + 1, hlt, by omega, by simp [hw], by simp, by simp, by rfl⟩
  · refine DW.exit ?_
    refine DW.seq ?_
    refine DW.reg (by simp (maxSteps := 200000) (disch := first | omega | (simp; done) | fail) [wrapI, leT, leF, ltT, ltF, eqF, nleT, nleF, nltT, nltF]; rfl) ?_
    refine DW.ret ?_
    simp [Try.results39]
theorem sameInts_spec (l : List Int) (hl : l.length < 2 ^ 40) : Spec Try.prog 44 [ra l, ra l] [none] [db true] [ra l, ra l] := by
  refine Spec.intro Try.func44 rfl rfl Try.ntmps44 rfl (by simp) ?_
  refine DW.seq ?_
  refine DW.reg (by simp (maxSteps := 200000) (disch := first | omega | (simp; done) | fail) [wrapI, leT, leF, ltT, ltF, eqF, nleT, nleF, nltT, nltF]; rfl) ?_
  refine DW.seq ?_
  refine DW.seq ?_
  refine DW.reg (by simp (maxSteps := 200000) (disch := first | omega | (simp; done) | fail) [wrapI, leT, leF, ltT, ltF, eqF, nleT, nleF, nltT, nltF]; rfl) ?_
  refine DW.condF (by simp (maxSteps := 200000) (disch := first | omega | (simp; done) | fail) [wrapI, leT, leF, ltT, ltF, eqF, nleT, nleF, nltT, nltF]) ?_
  refine DW.skip ?_
  refine DW.seq ?_
  refine DW.seq ?_
  refine DW.reg (by simp (maxSteps := 200000) (disch := first | omega | (simp; done) | fail) [wrapI, leT, leF, ltT, ltF, eqF, nleT, nleF, nltT, nltF]; rfl) ?_
  refine DW.block ?_
  refine DW.loopS (α := Nat) (fun i => i ≤ l.length) (fun i => l.length - i) (fun i => [(5, vi i)]) (fun i => []) [(0, _), (1, _)] [] [] 0 (Nat.zero_le _) (by simp; exact ⟨rfl, rfl⟩) (by simp) (by simp) (by rfl) ?_
  intro i hi
  refine DW.seq ?_
  refine DW.seq ?_
  refine DW.reg (by simp (maxSteps := 200000) (disch := first | omega | (simp; done) | fail) [wrapI, leT, leF, ltT, ltF, eqF, nleT, nleF, nltT, nltF]; rfl) ?_
  refine DW.condB (by simp (maxSteps := 200000) (disch := first | omega | (simp; done) | fail) [wrapI, leT, leF, ltT, ltF, eqF, nleT, nleF, nltT, nltF]; exact rfl) (fun hc1 => ?_) (fun hc1 => ?_)
  · have hlt : i < l.length := by simpa using hc1
    have hlt' : (i : Int) < l.length := by omega
    have hd := rR_get_Int l i hlt
    have hw := wr ((i : Int) + 1) (by omega) (by omega)
    generalize l[i] = c at hd
    have hcc : True := trivial
    refine DW.skip ?_
    refine DW.seq ?_
    refine DW.block ?_
    refine DW.seq ?_
    refine DW.drawn mixed (by kernel_rfl) ?_
    refine RegD.addN 9 (by simp [hlt', hd, hw]; (first | (simp (disch := omega) only [wrapI, ltF, if_false]; done) | (simp (disch := omega) only [wrapI, ltF, if_false]; first | exact ⟨rfl, rfl⟩ | rfl) | skip); (first | done | exact ⟨rfl, rfl⟩ | rfl)) ?_
    refine RegD.nil ⟨by kernel_rfl, ?_⟩
    refine DW.condF (by simp (maxSteps := 200000) (disch := first | omega | (simp; done) | fail) [wrapI, leT, leF, ltT, ltF, eqF, nleT, nleF, nltT, nltF, hlt', hd, hw]) ?_
    refine DW.skip ?_
    refine DW.reg (by simp (maxSteps := 200000) (disch := first | omega | (simp; done) | fail) [wrapI, leT, leF, ltT, ltF, eqF, nleT, nleF, nltT, nltF, hlt', hd, hw]; rfl) ?_
    exact ⟨i + 1, hlt, by omega, by simp [hw], by simp, by simp, by rfl⟩
  · refine DW.exit ?_
    refine DW.seq ?_
    refine DW.reg (by simp (maxSteps := 200000) (disch := first | omega | (simp; done) | fail) [wrapI, leT, leF, ltT, ltF, eqF, nleT, nleF, nltT, nltF]; rfl) ?_
    refine DW.ret ?_
    simp [Try.results44]
end Go.Proofs.Ytjjdjkkhhcbogaa.DM
