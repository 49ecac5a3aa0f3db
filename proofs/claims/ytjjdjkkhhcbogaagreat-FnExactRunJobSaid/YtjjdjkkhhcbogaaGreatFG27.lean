import Derived.Test.YtjjdjkkhhcbogaaGreatFG24
namespace Go.Proofs.YtjjdjkkhhcbogaaGreat.DM
set_option linter.unusedVariables false
set_option linter.unusedSimpArgs false
set_option maxRecDepth 4000
set_option maxHeartbeats 8000000
theorem specStepIdle (S : System) (t : Int) (hS : Row.sz S ≤ 2 ^ 36) (ht : sysTen S t = true) (hb : ∀ j, S.Jobs[t.toNat]? = some j → j.Busy = false) : Spec Tryz.prog 35 [raSystem S, ri t] [some 8, some 5, none] (System.d (stepJob S t).1 ++ (Result.d (stepJob S t).2.1 ++ [di (stepJob S t).2.2])) [raSystem S, ri t] := by
  refine Spec.intro Tryz.func35 rfl rfl Tryz.ntmps35 rfl (by simp) ?_
  obtain ⟨A, j, B, hJ, rfl, hjt⟩ := sysTen_job ht
  have hok := ht
  simp only [sysTen, Bool.and_eq_true] at hok
  obtain ⟨hgi, -, hjl, hjo⟩ := sysOk_in hok.1
  have hin := hjo j (by rw [hJ]; simp)
  obtain ⟨G, ⟨kept, cells⟩, J, Z⟩ := S
  simp only at hJ hjt hgi hjl
  have hz := System_sz ⟨G, ⟨kept, cells⟩, J, Z⟩
  have hzm := Memory_sz ⟨kept, cells⟩
  have hJz : szL J = szL A + (1 + Row.sz j + szL B) := by rw [hJ, szL_append]; rfl
  simp only at hz hzm
  have hjz := Job_sz j
  have hrz := Result_sz j.Result
  have h0l := szL_len Z
  have h1l := szL_len j.Steps
  have h2l := szL_len j.Seals
  have h3l := szL_len cells
  have h4l := szL_len J
  have hk : kept.size < 2 ^ 40 := by omega
  have hl : cells.length < 2 ^ 40 := by omega
  have hA := rD_len_Job A
  have hrD : rD J = rD A ++ (Job.d j ++ rD B) := by rw [hJ]; exact rD_mid A j B
  have hset : ∀ y, rD (J.set A.length y) = rD A ++ (Job.d y ++ rD B) := fun y => by rw [hJ, set_mid]; exact rD_mid A y B
  have hJl : J.length = A.length + (B.length + 1) := by rw [hJ]; simp
  have hlt1 : (A.length : Int) < J.length := by omega
  have hdA : ∀ x : List D, List.drop (A.length * 16) (rD A ++ x) = x := fun x => by rw [← hA]; exact List.drop_left
  have hTJ : ∀ a0 a1 a2 a3 a4 a5 a6 a7 a8 a9 a10 a11 a12 a13 a14 a15 : D, List.take (J.length * 16) (rD A ++ a0 :: a1 :: a2 :: a3 :: a4 :: a5 :: a6 :: a7 :: a8 :: a9 :: a10 :: a11 :: a12 :: a13 :: a14 :: a15 :: rD B) = rD A ++ a0 :: a1 :: a2 :: a3 :: a4 :: a5 :: a6 :: a7 :: a8 :: a9 :: a10 :: a11 :: a12 :: a13 :: a14 :: a15 :: rD B := fun _ _ _ _ _ _ _ _ _ _ _ _ _ _ _ _ => List.take_of_length_le (by rw [List.length_append, hA]; simp; omega)
  have hle : J.length * 16 ≤ A.length * 16 + (B.length * 16 + 1 + 1 + 1 + 1 + 1 + 1 + 1 + 1 + 1 + 1 + 1 + 1 + 1 + 1 + 1 + 1) := by omega
  have hwt := wr (G.Tenants - 1) (by have := hgi.t; omega) (by have := hgi.t; omega)
  have hsT := hok.2
  have hsO := hok.1
  have hsv : stepJob ⟨G, ⟨kept, cells⟩, J, Z⟩ A.length = if j.Busy = true then stepEnd (stepMid ⟨G, ⟨kept, cells⟩, J, Z⟩ j) A.length else (⟨G, ⟨kept, cells⟩, J, Z⟩, resZ, 3) := by
    unfold stepJob; rw [if_pos ht, hjt]; rfl
  obtain ⟨ask, res, steps, seals, at_, busy, mount⟩ := j
  simp only at hin hjz hrz h1l h2l
  have hbt : busy = false := hb _ hjt
  subst hbt
  have hres : stepJob ⟨G, ⟨kept, cells⟩, J, Z⟩ A.length = (⟨G, ⟨kept, cells⟩, J, Z⟩, resZ, 3) := by rw [hsv]; simp
  have hC : Spec Tryz.prog 100 [raSystem ⟨G, ⟨kept, cells⟩, J, Z⟩] [some 8] [.sc (.int .i64 G.Tenants), .sc (.int .i64 G.Pages), .sc (.int .i64 G.Inodes), .sc (.int .i64 G.Quota), .sc (.string kept), .ow () 3 cells.length (rD cells), .ow () 16 J.length (rD A ++ (Job.d ⟨ask, res, steps, seals, at_, false, mount⟩ ++ rD B)), .ow () 3 Z.length (rD Z)] [raSystem ⟨G, ⟨kept, cells⟩, J, Z⟩] := by
    have h := l23Copy_spec ⟨G, ⟨kept, cells⟩, J, Z⟩ hS
    simp only [System.d, hrD] at h
    exact h
  refine DW.seq ?_
  refine DW.reg (by simp (maxSteps := 200000) (disch := first | omega | (simp; done) | fail) [wrapI, leT, leF, ltT, ltF, eqF, nleT, nleF, nltT, nltF, hsT, hsO, hwt, hlt1]; rfl) ?_
  refine DW.seq ?_
  refine DW.regs ?_
  refine RegO.opN 1 (by simp [hsT, hsO, hwt, hlt1, hTJ, hle, hA]; rfl) ?_
  refine RegO.step rfl (OpStep.callA rfl (by simp [hsT, hsO, hwt, hlt1, hTJ, hle, hA]; exact ⟨rfl, rfl⟩) (by simp [hsT, hsO, hwt, hlt1, hTJ, hle, hA]; rfl) (by exact hC) (by simp) (by simp [hsT, hsO, hwt, hlt1, hTJ, hle, hA]; rfl)) ?_
  refine RegO.opN 2 (by simp [hsT, hsO, hwt, hlt1, hTJ, hle, hA]; rfl) ?_
  refine RegO.nil ?_
  refine DW.norm [(1, _), (2, _), (4, _), (5, _), (7, _)] [(2, _), (4, _), (5, _), (7, _)] [] (by simp [hsT, hsO, hwt, hlt1]; exact ⟨rfl, rfl, rfl, rfl, rfl⟩) (by simp [hsT, hsO, hwt, hlt1]; exact ⟨rfl, rfl, rfl, rfl⟩) (by simp [hsT, hsO, hwt, hlt1]) (by rfl) ?_
  refine DW.seq ?_
  refine DW.seq ?_
  refine DW.regs ?_
  refine RegO.opN 1 (by simp (maxSteps := 200000) (disch := first | omega | (simp; done) | fail) [wrapI, leT, leF, ltT, ltF, eqF, nleT, nleF, nltT, nltF, hsT, hsO, hwt, hlt1]; rfl) ?_
  refine RegO.step rfl (OpStep.callA rfl (by simp (maxSteps := 200000) (disch := first | omega | (simp; done) | fail) [wrapI, leT, leF, ltT, ltF, eqF, nleT, nleF, nltT, nltF, hsT, hsO, hwt, hlt1]; exact ⟨rfl, rfl⟩) (by simp (maxSteps := 200000) (disch := first | omega | (simp; done) | fail) [wrapI, leT, leF, ltT, ltF, eqF, nleT, nleF, nltT, nltF, hsT, hsO, hwt, hlt1]; rfl) (by exact specSystemOk_spec ⟨G, ⟨kept, cells⟩, J, Z⟩ hS) (by simp) (by simp (maxSteps := 200000) (disch := first | omega | (simp; done) | fail) [wrapI, leT, leF, ltT, ltF, eqF, nleT, nleF, nltT, nltF, hsT, hsO, hwt, hlt1]; rfl)) ?_
  refine RegO.opN 7 (by simp (maxSteps := 200000) (disch := first | omega | (simp; done) | fail) [wrapI, leT, leF, ltT, ltF, eqF, nleT, nleF, nltT, nltF, hsT, hsO, hwt, hlt1]; rfl) ?_
  refine RegO.stepT (by simp (maxSteps := 200000) (disch := first | omega | (simp; done) | fail) [wrapI, leT, leF, ltT, ltF, eqF, nleT, nleF, nltT, nltF, hsT, hsO, hwt, hlt1]) (OpStep.callA rfl (by simp (maxSteps := 200000) (disch := first | omega | (simp; done) | fail) [wrapI, leT, leF, ltT, ltF, eqF, nleT, nleF, nltT, nltF, hsT, hsO, hwt, hlt1]; exact ⟨rfl, rfl⟩) (by simp (maxSteps := 200000) (disch := first | omega | (simp; done) | fail) [wrapI, leT, leF, ltT, ltF, eqF, nleT, nleF, nltT, nltF, hsT, hsO, hwt, hlt1]; rfl) (by exact l01In_spec _ _ _) (by simp) (by simp (maxSteps := 200000) (disch := first | omega | (simp; done) | fail) [wrapI, leT, leF, ltT, ltF, eqF, nleT, nleF, nltT, nltF, hsT, hsO, hwt, hlt1]; rfl)) ?_
  refine RegO.opN 2 (by simp (maxSteps := 200000) (disch := first | omega | (simp; done) | fail) [wrapI, leT, leF, ltT, ltF, eqF, nleT, nleF, nltT, nltF, hsT, hsO, hwt, hlt1]; rfl) ?_
  refine RegO.nil ?_
  refine DW.condF (by simp (maxSteps := 200000) (disch := first | omega | (simp; done) | fail) [wrapI, leT, leF, ltT, ltF, eqF, nleT, nleF, nltT, nltF, hsT, hsO, hwt, hlt1]) ?_
  refine DW.skip ?_
  refine DW.seq ?_
  refine DW.regs ?_
  refine RegO.opN 6 (by simp [hsT, hsO, hwt, hlt1, app_get hA, app_get0 hA, app_set hA, app_set0 hA, hdA, Nat.add_assoc]; rfl) ?_
  refine RegO.step rfl (OpStep.ghost (((Ghost.weak1 29 10 (by simp [hsT, hsO, hwt, hlt1, app_get hA, app_get0 hA, app_set hA, app_set0 hA, hdA, Nat.add_assoc]; rfl)).trans (Ghost.weak1 29 11 (by simp; rfl))).trans (Ghost.weak1 29 12 (by simp; rfl))) (OpStep.of (by simp [hsT, hsO, hwt, hlt1, app_get hA, app_get0 hA, app_set hA, app_set0 hA, hdA, Nat.add_assoc]; rfl)) Ghost.refl) ?_
  refine RegO.nil ?_
  refine DW.norm [(1, _), (4, _), (5, _), (7, _), (8, _)] [(2, _), (4, _), (5, _), (7, _), (8, _)] [] (by simp [hsT, hsO, hwt, hlt1]; exact ⟨rfl, rfl, rfl, rfl, rfl⟩) (by simp [hsT, hsO, hwt, hlt1]; exact ⟨rfl, rfl, rfl, rfl, rfl⟩) (by simp [hsT, hsO, hwt, hlt1]) (by rfl) ?_
  refine DW.seq ?_
  refine DW.seq ?_
  refine DW.reg (by simp (maxSteps := 200000) (disch := first | omega | (simp; done) | fail) [wrapI, leT, leF, ltT, ltF, eqF, nleT, nleF, nltT, nltF, hsT, hsO, hwt, hlt1]; rfl) ?_
  refine DW.condT (by simp (maxSteps := 200000) (disch := first | omega | (simp; done) | fail) [wrapI, leT, leF, ltT, ltF, eqF, nleT, nleF, nltT, nltF, hsT, hsO, hwt, hlt1]) ?_
  refine DW.seq ?_
  refine DW.reg (by simp [hsT, hsO, hwt, hlt1, hTJ, hle, hA]; rfl) ?_
  refine DW.ghost (Ghost.wide 5 [4] 1 (by simp; rfl) (by simp)) ?_
  refine DW.ret ?_
  rw [hres]
  simp [Tryz.results35, resZ, hrD, hTJ, hle, hA]
end Go.Proofs.YtjjdjkkhhcbogaaGreat.DM
