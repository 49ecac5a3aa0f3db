import Derived.Test.YtjjdjkkhhcbogaaGreatFG19
namespace Go.Proofs.YtjjdjkkhhcbogaaGreat.DM
set_option linter.unusedVariables false
set_option linter.unusedSimpArgs false
set_option maxRecDepth 4000
set_option maxHeartbeats 8000000
theorem l23Copy_spec (S : System) (hS : Row.sz S ≤ 2 ^ 36) : Spec Tryz.prog 100 [raSystem S] [some 8] (System.d S) [raSystem S] := by
  refine Spec.intro Tryz.func100 rfl rfl Tryz.ntmps100 rfl (by simp) ?_
  have hz := System_sz S
  have hzm := Memory_sz S.Memory
  have hcl := szL_len S.Memory.Cells
  have hjl := szL_len S.Jobs
  have hsl := szL_len S.Seals
  have hl : S.Memory.Cells.length < 2 ^ 40 := by omega
  have s1 : S.Seals.length * 48 ≤ 140737488355328 := by omega
  have s2 : S.Seals.length ≤ 140737488355328 := by omega
  refine DW.seq ?_
  refine DW.reg (by simp (maxSteps := 200000) (disch := first | omega | (simp; done) | fail) [wrapI, leT, leF, ltT, ltF, eqF, nleT, nleF, nltT, nltF]; rfl) ?_
  refine DW.seq ?_
  refine DW.reg (by simp; rfl) ?_
  refine DW.seq ?_
  refine DW.regs ?_
  refine RegO.opN 2 (by simp; rfl) ?_
  refine RegO.step rfl (OpStep.callA rfl (by simp; exact ⟨rfl, rfl⟩) (by simp; rfl) (by exact l10Copy_spec S.Memory.Kept S.Memory.Cells hl) (by simp) (by simp; rfl)) ?_
  refine RegO.opN 2 (by simp; rfl) ?_
  refine RegO.nil ?_
  refine DW.norm [(1, _), (2, _), (3, _)] [(1, _), (2, _), (3, _)] [] (by simp; exact ⟨rfl, rfl, rfl⟩) (by simp; exact ⟨rfl, rfl, rfl⟩) (by simp) (by rfl) ?_
  refine DW.seq ?_
  refine DW.reg (by simp; rfl) ?_
  refine DW.ghost (Ghost.wide 3 [6] 16 (by simp; rfl) (by simp)) ?_
  refine DW.norm [(1, _), (2, _), (3, _)] [(1, _), (2, _), (3, _)] [] (by simp; exact ⟨rfl, rfl, rfl⟩) (by simp; exact ⟨rfl, rfl, rfl⟩) (by simp) (by rfl) ?_
  refine DW.seq ?_
  refine DW.seq ?_
  refine DW.reg (by simp (maxSteps := 200000) (disch := first | omega | (simp; done) | fail) [wrapI, leT, leF, ltT, ltF, eqF, nleT, nleF, nltT, nltF]; rfl) ?_
  refine DW.block ?_
  refine DW.loopS (α := Nat) (fun i => i ≤ S.Jobs.length) (fun i => S.Jobs.length - i) (fun i => [(4, vi i)]) (fun i => [(3, .ow () 8 1 [.sc (.int .i64 S.Geo.Tenants), .sc (.int .i64 S.Geo.Pages), .sc (.int .i64 S.Geo.Inodes), .sc (.int .i64 S.Geo.Quota), .sc (.string S.Memory.Kept), .ow () 3 S.Memory.Cells.length (rD S.Memory.Cells), .ow () 16 i (rD (S.Jobs.take i)), .ro () (.sl S.Seals.length (rR S.Seals))])]) [(1, _), (2, _), (3, _)] [(1, _), (2, _)] [] 0 (by simp) (by simp; exact ⟨rfl, rfl, rfl⟩) (by simp; exact ⟨rfl, rfl⟩) (by simp) (by rfl) ?_
  intro i hi
  refine DW.seq ?_
  refine DW.seq ?_
  refine DW.reg (by simp (maxSteps := 200000) (disch := first | omega | (simp; done) | fail) [wrapI, leT, leF, ltT, ltF, eqF, nleT, nleF, nltT, nltF]; rfl) ?_
  refine DW.condB (by simp (maxSteps := 200000) (disch := first | omega | (simp; done) | fail) [wrapI, leT, leF, ltT, ltF, eqF, nleT, nleF, nltT, nltF]; exact rfl) (fun hc0 => ?_) (fun hc0 => ?_)
  · have hlt : i < S.Jobs.length := by simpa using hc0
    have hlt1 : (i : Int) < S.Jobs.length := by omega
    have hd := rR_drop_Job S.Jobs i hlt
    have hsa := szL_at S.Jobs i hlt
    have hR : rD (S.Jobs.take (i + 1)) = rD (S.Jobs.take i) ++ Job.d S.Jobs[i] := by
      rw [List.take_succ_eq_append_getElem hlt, rD_append]; congr 1
    have hKl : (S.Jobs.take i).length = i := by rw [List.length_take, Nat.min_eq_left (by omega)]
    have hT := rD_take_Job (S.Jobs.take i)
    have hTl := rD_len_Job (S.Jobs.take i)
    rw [hKl] at hT hTl
    generalize S.Jobs[i] = c at hd hsa hR
    generalize hK2 : rD (S.Jobs.take (i + 1)) = K2 at hR
    generalize S.Jobs.take i = K at hR hKl hT hTl
    have hjz := Job_sz c
    have hrz := Result_sz c.Result
    have h1l := szL_len c.Steps
    have h2l := szL_len c.Seals
    have h3l := szL_len c.Result.Names
    have p1 : c.Steps.length * 32 ≤ 140737488355328 := by omega
    have p2 : c.Steps.length ≤ 140737488355328 := by omega
    have e1 : c.Seals.length * 48 ≤ 140737488355328 := by omega
    have e2 : c.Seals.length ≤ 140737488355328 := by omega
    have n1 : c.Result.Names.length * 16 ≤ 140737488355328 := by omega
    have n2 : c.Result.Names.length ≤ 140737488355328 := by omega
    have d1 : (i + 1) * 200 ≤ 140737488355328 := by omega
    have d2 : i + 1 ≤ 140737488355328 := by omega
    have d3 : i ≤ 140737488355327 := by omega
    have d4 : (i + 1) * 16 ≤ i * 16 + 16 := by omega
    have hTR : ∀ x : List D, x.length = 16 → List.take ((i + 1) * 16) (rD K ++ x) = rD K ++ x := fun x hx => List.take_of_length_le (by rw [List.length_append, hTl, hx]; omega)
    refine DW.skip ?_
    refine DW.seq ?_
    refine DW.block ?_
    refine DW.seq ?_
    refine DW.reg (by simp [hlt1, hd]; rfl) ?_
    refine DW.norm [(1, _), (2, _), (3, _), (4, _), (5, _)] [(1, _), (2, _), (3, _), (5, _)] [] (by simp [hlt1, hd]; exact ⟨rfl, rfl, rfl, rfl, rfl⟩) (by simp [hlt1, hd]; exact ⟨rfl, rfl, rfl, rfl⟩) (by simp [hlt1, hd]) (by rfl) ?_
    refine DW.seq ?_
    refine DW.reg (by simp [hlt1, hd, p1, p2]; rfl) ?_
    refine DW.norm [(1, _), (2, _), (3, _), (4, _), (5, _)] [(1, _), (2, _), (3, _), (5, _)] [] (by simp [hlt1, hd]; exact ⟨rfl, rfl, rfl, rfl, rfl⟩) (by simp [hlt1, hd]; exact ⟨rfl, rfl, rfl, rfl⟩) (by simp [hlt1, hd]) (by rfl) ?_
    refine DW.seq ?_
    refine DW.reg (by simp [hlt1, hd, e1, e2]; rfl) ?_
    refine DW.norm [(1, _), (2, _), (3, _), (4, _), (5, _)] [(1, _), (2, _), (3, _), (5, _)] [] (by simp [hlt1, hd]; exact ⟨rfl, rfl, rfl, rfl, rfl⟩) (by simp [hlt1, hd]; exact ⟨rfl, rfl, rfl, rfl⟩) (by simp [hlt1, hd]) (by rfl) ?_
    refine DW.seq ?_
    refine DW.reg (by simp [hlt1, hd, n1, n2]; rfl) ?_
    refine DW.norm [(1, _), (2, _), (3, _), (4, _), (5, _)] [(1, _), (2, _), (3, _), (5, _)] [] (by simp [hlt1, hd]; exact ⟨rfl, rfl, rfl, rfl, rfl⟩) (by simp [hlt1, hd]; exact ⟨rfl, rfl, rfl, rfl⟩) (by simp [hlt1, hd]) (by rfl) ?_
    refine DW.reg (by simp [hlt1, hd, d1, d2, d3, d4, hT, hTl, hTR]; rfl) ?_
    refine DW.norm [(1, _), (2, _), (3, _), (4, _)] [(1, _), (2, _), (3, _)] [] (by simp [hlt1, hd]; exact ⟨rfl, rfl, rfl, rfl⟩) (by simp [hlt1, hd]; exact ⟨rfl, rfl, rfl⟩) (by simp [hlt1, hd]) (by rfl) ?_
    refine DW.reg (by simp (maxSteps := 200000) (disch := first | omega | (simp; done) | fail) [wrapI, leT, leF, ltT, ltF, eqF, nleT, nleF, nltT, nltF, hlt1, hd]; rfl) ?_
    exact ⟨i + 1, hlt, by omega, by simp, by simp [hK2, hR], by simp, by rfl⟩
  · have hil : i = S.Jobs.length := by
      have : ¬ i < S.Jobs.length := by simpa using hc0
      omega
    subst hil
    rw [List.take_length]
    have hT := rD_take_Job S.Jobs
    have hTl := rD_len_Job S.Jobs
    refine DW.exit ?_
    refine DW.seq ?_
    refine DW.reg (by simp [s1, s2, hT, hTl]; rfl) ?_
    refine DW.norm [(2, _), (3, _)] [(2, _), (3, _)] [] (by simp; exact ⟨rfl, rfl⟩) (by simp; exact ⟨rfl, rfl⟩) (by simp) (by rfl) ?_
    refine DW.seq ?_
    refine DW.reg (by simp [hT, hTl]; rfl) ?_
    refine DW.ret ?_
    simp [Tryz.results100, hT, hTl]
theorem cloneSealing_spec (l : List Sealing) (hl : l.length ≤ 2 ^ 36) : Spec Tryz.prog 158 [ra l] [none] [dr l] [ra l] := by
  refine Spec.intro Tryz.func158 rfl rfl Tryz.ntmps158 rfl (by simp) ?_
  have c1 : l.length * 48 ≤ 140737488355328 := by omega
  have c2 : l.length ≤ 140737488355328 := by omega
  refine DW.seq ?_
  refine DW.reg (by simp [c1, c2]; rfl) ?_
  refine DW.seq ?_
  refine DW.seq ?_
  refine DW.regs ?_
  refine RegO.opN 1 (by simp; rfl) ?_
  refine RegO.stepE rfl (OpStepE.eqNil (n := l.length) rfl rfl (by decide) Tryz.underlying50 (by simp [rowLen])) ?_
  rintro s1 ⟨b, hb, rfl⟩
  refine RegO.nil ?_
  refine DW.condB (by simp [c1, c2]; exact rfl) (fun hc0 => ?_) (fun hc0 => ?_)
  · have hl0 : l = [] := List.length_eq_zero_iff.1 (hb hc0)
    subst hl0
    refine DW.seq ?_
    refine DW.reg (by simp [c1, c2]; rfl) ?_
    refine DW.ghost (Ghost.nlRow 2 1000 3 (by simp) (by simp)) ?_
    refine DW.ret ?_
    simp [Tryz.results158]
  · refine DW.skip ?_
    refine DW.seq ?_
    refine DW.reg (by simp [c1, c2]; rfl) ?_
    refine DW.ret ?_
    simp [Tryz.results158]
theorem cloneStep_spec (l : List Step) (hl : l.length ≤ 2 ^ 36) : Spec Tryz.prog 209 [ra l] [none] [dr l] [ra l] := by
  refine Spec.intro Tryz.func209 rfl rfl Tryz.ntmps209 rfl (by simp) ?_
  have c1 : l.length * 32 ≤ 140737488355328 := by omega
  have c2 : l.length ≤ 140737488355328 := by omega
  refine DW.seq ?_
  refine DW.reg (by simp [c1, c2]; rfl) ?_
  refine DW.seq ?_
  refine DW.seq ?_
  refine DW.regs ?_
  refine RegO.opN 1 (by simp; rfl) ?_
  refine RegO.stepE rfl (OpStepE.eqNil (n := l.length) rfl rfl (by decide) Tryz.underlying29 (by simp [rowLen])) ?_
  rintro s1 ⟨b, hb, rfl⟩
  refine RegO.nil ?_
  refine DW.condB (by simp [c1, c2]; exact rfl) (fun hc0 => ?_) (fun hc0 => ?_)
  · have hl0 : l = [] := List.length_eq_zero_iff.1 (hb hc0)
    subst hl0
    refine DW.seq ?_
    refine DW.reg (by simp [c1, c2]; rfl) ?_
    refine DW.ghost (Ghost.nlRow 2 1000 3 (by simp) (by simp)) ?_
    refine DW.ret ?_
    simp [Tryz.results209]
  · refine DW.skip ?_
    refine DW.seq ?_
    refine DW.reg (by simp [c1, c2]; rfl) ?_
    refine DW.ret ?_
    simp [Tryz.results209]
theorem cloneByteArray_spec (l : List ByteArray) (hl : l.length ≤ 2 ^ 36) : Spec Tryz.prog 243 [ra l] [none] [dr l] [ra l] := by
  refine Spec.intro Tryz.func243 rfl rfl Tryz.ntmps243 rfl (by simp) ?_
  have c1 : l.length * 16 ≤ 140737488355328 := by omega
  have c2 : l.length ≤ 140737488355328 := by omega
  refine DW.seq ?_
  refine DW.reg (by simp [c1, c2]; rfl) ?_
  refine DW.seq ?_
  refine DW.seq ?_
  refine DW.regs ?_
  refine RegO.opN 1 (by simp; rfl) ?_
  refine RegO.stepE rfl (OpStepE.eqNil (n := l.length) rfl rfl (by decide) Tryz.underlying72 (by simp [rowLen])) ?_
  rintro s1 ⟨b, hb, rfl⟩
  refine RegO.nil ?_
  refine DW.condB (by simp [c1, c2]; exact rfl) (fun hc0 => ?_) (fun hc0 => ?_)
  · have hl0 : l = [] := List.length_eq_zero_iff.1 (hb hc0)
    subst hl0
    refine DW.seq ?_
    refine DW.reg (by simp [c1, c2]; rfl) ?_
    refine DW.ghost (Ghost.nlRow 2 1000 1 (by simp) (by simp)) ?_
    refine DW.ret ?_
    simp [Tryz.results243]
  · refine DW.skip ?_
    refine DW.seq ?_
    refine DW.reg (by simp [c1, c2]; rfl) ?_
    refine DW.ret ?_
    simp [Tryz.results243]
theorem copyResult_spec (r : Result) (hr : Row.sz r ≤ 2 ^ 36) : Spec Tryz.prog 208 [raResult r] [some 5] (Result.d r) [raResult r] := by
  refine Spec.intro Tryz.func208 rfl rfl Tryz.ntmps208 rfl (by simp) ?_
  have hz := Result_sz r
  have h3l := szL_len r.Names
  refine DW.seq ?_
  refine DW.reg (by simp (maxSteps := 200000) (disch := first | omega | (simp; done) | fail) [wrapI, leT, leF, ltT, ltF, eqF, nleT, nleF, nltT, nltF]; rfl) ?_
  refine DW.seq ?_
  refine DW.regs ?_
  refine RegO.opN 2 (by simp; rfl) ?_
  refine RegO.step rfl (OpStep.callA rfl (by simp; exact ⟨rfl, rfl⟩) (by simp; rfl) (by exact cloneByteArray_spec _ (by omega)) (by simp) (by simp; rfl)) ?_
  refine RegO.opN 2 (by simp; rfl) ?_
  refine RegO.nil ?_
  refine DW.norm [(1, _), (2, _)] [(1, _), (2, _)] [] (by simp; exact ⟨rfl, rfl⟩) (by simp; exact ⟨rfl, rfl⟩) (by simp) (by rfl) ?_
  refine DW.seq ?_
  refine DW.reg (by simp; rfl) ?_
  refine DW.ret ?_
  simp [Tryz.results208]
theorem copyJob_spec (c : Job) (hc : Row.sz c ≤ 2 ^ 36) : Spec Tryz.prog 159 [raJob c] [some 16] (Job.d c) [raJob c] := by
  refine Spec.intro Tryz.func159 rfl rfl Tryz.ntmps159 rfl (by simp) ?_
  have hz := Job_sz c
  have h1l := szL_len c.Steps
  have h2l := szL_len c.Seals
  refine DW.seq ?_
  refine DW.reg (by simp (maxSteps := 200000) (disch := first | omega | (simp; done) | fail) [wrapI, leT, leF, ltT, ltF, eqF, nleT, nleF, nltT, nltF]; rfl) ?_
  refine DW.seq ?_
  refine DW.drawn mixed (by kernel_rfl) ?_
  refine RegD.addN 2 (by simp; (first | (simp (disch := omega) only [wrapI]; done) | (simp (disch := omega) only [wrapI]; exact ⟨rfl, rfl⟩) | skip); (first | done | exact ⟨rfl, rfl⟩ | rfl)) ?_
  refine RegD.cert (Cert.callHA rfl (by simp) rfl (by decide) (by simp; exact ⟨rfl, rfl⟩) (by simp; rfl) (by exact copyResult_spec c.Result (by omega)) rfl (by simp) (by simp) (by simp; rfl) rfl) ?_
  refine RegD.addN 2 (by simp; (first | (simp (disch := omega) only [wrapI]; done) | (simp (disch := omega) only [wrapI]; exact ⟨rfl, rfl⟩) | skip); (first | done | exact ⟨rfl, rfl⟩ | rfl)) ?_
  refine RegD.cert (Cert.callHA rfl (by simp) rfl (by decide) (by simp; exact ⟨rfl, rfl⟩) (by simp; rfl) (by exact cloneStep_spec _ (by omega)) rfl (by simp) (by simp) (by simp; rfl) rfl) ?_
  refine RegD.addN 2 (by simp; (first | (simp (disch := omega) only [wrapI]; done) | (simp (disch := omega) only [wrapI]; exact ⟨rfl, rfl⟩) | skip); (first | done | exact ⟨rfl, rfl⟩ | rfl)) ?_
  refine RegD.cert (Cert.callHA rfl (by simp) rfl (by decide) (by simp; exact ⟨rfl, rfl⟩) (by simp; rfl) (by exact cloneSealing_spec _ (by omega)) rfl (by simp) (by simp) (by simp; rfl) rfl) ?_
  refine RegD.addN 1 (by simp; (first | (simp (disch := omega) only [wrapI]; done) | (simp (disch := omega) only [wrapI]; exact ⟨rfl, rfl⟩) | skip); (first | done | exact ⟨rfl, rfl⟩ | rfl)) ?_
  refine RegD.heavyF (by simp) (by simp; rfl) ?_
  refine RegD.addN 1 (by simp; (first | (simp (disch := omega) only [wrapI]; done) | (simp (disch := omega) only [wrapI]; exact ⟨rfl, rfl⟩) | skip); (first | done | exact ⟨rfl, rfl⟩ | rfl)) ?_
  refine RegD.heavyF (by simp) (by simp; rfl) ?_
  refine RegD.addN 1 (by simp; (first | (simp (disch := omega) only [wrapI]; done) | (simp (disch := omega) only [wrapI]; exact ⟨rfl, rfl⟩) | skip); (first | done | exact ⟨rfl, rfl⟩ | rfl)) ?_
  refine RegD.heavyF (by simp) (by simp; rfl) ?_
  refine RegD.nil ⟨by kernel_rfl, ?_⟩
  refine DW.norm [(1, _), (2, _)] [(1, _), (2, _)] [] (by simp; exact ⟨rfl, rfl⟩) (by simp; exact ⟨rfl, rfl⟩) (by simp) (by rfl) ?_
  refine DW.seq ?_
  refine DW.reg (by simp; rfl) ?_
  refine DW.ret ?_
  simp [Tryz.results159]
end Go.Proofs.YtjjdjkkhhcbogaaGreat.DM
