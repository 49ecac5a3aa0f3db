import Derived.Test.YtjjdjkkhhcbogaaGreatFG23
namespace Go.Proofs.YtjjdjkkhhcbogaaGreat.DM
set_option linter.unusedVariables false
set_option linter.unusedSimpArgs false
set_option maxRecDepth 4000
set_option maxHeartbeats 8000000
theorem specStepBusy (S : System) (t : Int) (hS : Row.sz S ≤ 2 ^ 36) (ht : sysTen S t = true) (hb : ∀ j, S.Jobs[t.toNat]? = some j → j.Busy = true) : Spec Tryz.prog 35 [raSystem S, ri t] [some 8, some 5, none] (System.d (stepJob S t).1 ++ (Result.d (stepJob S t).2.1 ++ [di (stepJob S t).2.2])) [raSystem S, ri t] := by
  refine Spec.intro Tryz.func35 rfl rfl Tryz.ntmps35 rfl (by simp) ?_
  obtain ⟨A, j, B, hJ, rfl, hjt⟩ := sysTen_job ht
  have hok := ht
  simp only [sysTen, Bool.and_eq_true] at hok
  obtain ⟨hgi, -, hjl, hjo⟩ := sysOk_in hok.1
  have hin := hjo j (by rw [hJ]; simp)
  obtain ⟨G, ⟨kept, cells⟩, J, Z⟩ := S
  simp only at hJ hjt hgi hjl
  have hz := System_sz ⟨G, ⟨kept, cells⟩, J, Z⟩
  have hzm := Memory_sz ⟨kept, cells⟩
  have hJz : szL J = szL A + (1 + Row.sz j + szL B) := by rw [hJ, szL_append]; rfl
  simp only at hz hzm
  have hjz := Job_sz j
  have hrz := Result_sz j.Result
  have h0l := szL_len Z
  have h1l := szL_len j.Steps
  have h2l := szL_len j.Seals
  have h3l := szL_len cells
  have h4l := szL_len J
  have hk : kept.size < 2 ^ 40 := by omega
  have hl : cells.length < 2 ^ 40 := by omega
  have hA := rD_len_Job A
  have hrD : rD J = rD A ++ (Job.d j ++ rD B) := by rw [hJ]; exact rD_mid A j B
  have hset : ∀ y, rD (J.set A.length y) = rD A ++ (Job.d y ++ rD B) := fun y => by rw [hJ, set_mid]; exact rD_mid A y B
  have hJl : J.length = A.length + (B.length + 1) := by rw [hJ]; simp
  have hlt1 : (A.length : Int) < J.length := by omega
  have hdA : ∀ x : List D, List.drop (A.length * 16) (rD A ++ x) = x := fun x => by rw [← hA]; exact List.drop_left
  have hTJ : ∀ a0 a1 a2 a3 a4 a5 a6 a7 a8 a9 a10 a11 a12 a13 a14 a15 : D, List.take (J.length * 16) (rD A ++ a0 :: a1 :: a2 :: a3 :: a4 :: a5 :: a6 :: a7 :: a8 :: a9 :: a10 :: a11 :: a12 :: a13 :: a14 :: a15 :: rD B) = rD A ++ a0 :: a1 :: a2 :: a3 :: a4 :: a5 :: a6 :: a7 :: a8 :: a9 :: a10 :: a11 :: a12 :: a13 :: a14 :: a15 :: rD B := fun _ _ _ _ _ _ _ _ _ _ _ _ _ _ _ _ => List.take_of_length_le (by rw [List.length_append, hA]; simp; omega)
  have hle : J.length * 16 ≤ A.length * 16 + (B.length * 16 + 1 + 1 + 1 + 1 + 1 + 1 + 1 + 1 + 1 + 1 + 1 + 1 + 1 + 1 + 1 + 1) := by omega
  have hwt := wr (G.Tenants - 1) (by have := hgi.t; omega) (by have := hgi.t; omega)
  have hsT := hok.2
  have hsO := hok.1
  have hsv : stepJob ⟨G, ⟨kept, cells⟩, J, Z⟩ A.length = if j.Busy = true then stepEnd (stepMid ⟨G, ⟨kept, cells⟩, J, Z⟩ j) A.length else (⟨G, ⟨kept, cells⟩, J, Z⟩, resZ, 3) := by
    unfold stepJob; rw [if_pos ht, hjt]; rfl
  obtain ⟨ask, res, steps, seals, at_, busy, mount⟩ := j
  simp only at hin hjz hrz h1l h2l
  have hbt : busy = true := hb _ hjt
  subst hbt
  obtain ⟨k, rfl⟩ := Int.eq_ofNat_of_zero_le hin.1
  replace hsv := hsv.trans (if_pos rfl)
  have hC : Spec Tryz.prog 100 [raSystem ⟨G, ⟨kept, cells⟩, J, Z⟩] [some 8] [.sc (.int .i64 G.Tenants), .sc (.int .i64 G.Pages), .sc (.int .i64 G.Inodes), .sc (.int .i64 G.Quota), .sc (.string kept), .ow () 3 cells.length (rD cells), .ow () 16 J.length (rD A ++ (Job.d ⟨ask, res, steps, seals, k, true, mount⟩ ++ rD B)), .ow () 3 Z.length (rD Z)] [raSystem ⟨G, ⟨kept, cells⟩, J, Z⟩] := by
    have h := l23Copy_spec ⟨G, ⟨kept, cells⟩, J, Z⟩ hS
    simp only [System.d, hrD] at h
    exact h
  have hw1 := wr ((k : Int) + 1) (by omega) (by omega)
  have b1 : (Z.length + seals.length) * 48 ≤ 140737488355328 := by omega
  have b2 : Z.length + seals.length ≤ 140737488355328 := by omega
  have hZT := rD_take_Sealing Z
  have hZl := rD_len_Sealing Z
  have hET := rD_take_Sealing seals
  have hEl := rD_len_Sealing seals
  have hzl : (Z.length + seals.length) * 3 ≤ Z.length * 3 + seals.length * 3 := by omega
  have hzT : List.take ((Z.length + seals.length) * 3) (rD Z ++ rD seals) = rD Z ++ rD seals := List.take_of_length_le (by simp; omega)
  refine DW.seq ?_
  refine DW.reg (by simp (maxSteps := 200000) (disch := first | omega | (simp; done) | fail) [wrapI, leT, leF, ltT, ltF, eqF, nleT, nleF, nltT, nltF, hsT, hsO, hwt, hlt1]; rfl) ?_
  refine DW.seq ?_
  refine DW.regs ?_
  refine RegO.opN 1 (by simp [hsT, hsO, hwt, hlt1, hTJ, hle, hA]; rfl) ?_
  refine RegO.step rfl (OpStep.callA rfl (by simp [hsT, hsO, hwt, hlt1, hTJ, hle, hA]; exact ⟨rfl, rfl⟩) (by simp [hsT, hsO, hwt, hlt1, hTJ, hle, hA]; rfl) (by exact hC) (by simp) (by simp [hsT, hsO, hwt, hlt1, hTJ, hle, hA]; rfl)) ?_
  refine RegO.opN 2 (by simp [hsT, hsO, hwt, hlt1, hTJ, hle, hA]; rfl) ?_
  refine RegO.nil ?_
  refine DW.norm [(1, _), (2, _), (4, _), (5, _), (7, _)] [(2, _), (4, _), (5, _), (7, _)] [] (by simp [hsT, hsO, hwt, hlt1]; exact ⟨rfl, rfl, rfl, rfl, rfl⟩) (by simp [hsT, hsO, hwt, hlt1]; exact ⟨rfl, rfl, rfl, rfl⟩) (by simp [hsT, hsO, hwt, hlt1]) (by rfl) ?_
  refine DW.seq ?_
  refine DW.seq ?_
  refine DW.regs ?_
  refine RegO.opN 1 (by simp (maxSteps := 200000) (disch := first | omega | (simp; done) | fail) [wrapI, leT, leF, ltT, ltF, eqF, nleT, nleF, nltT, nltF, hsT, hsO, hwt, hlt1]; rfl) ?_
  refine RegO.step rfl (OpStep.callA rfl (by simp (maxSteps := 200000) (disch := first | omega | (simp; done) | fail) [wrapI, leT, leF, ltT, ltF, eqF, nleT, nleF, nltT, nltF, hsT, hsO, hwt, hlt1]; exact ⟨rfl, rfl⟩) (by simp (maxSteps := 200000) (disch := first | omega | (simp; done) | fail) [wrapI, leT, leF, ltT, ltF, eqF, nleT, nleF, nltT, nltF, hsT, hsO, hwt, hlt1]; rfl) (by exact specSystemOk_spec ⟨G, ⟨kept, cells⟩, J, Z⟩ hS) (by simp) (by simp (maxSteps := 200000) (disch := first | omega | (simp; done) | fail) [wrapI, leT, leF, ltT, ltF, eqF, nleT, nleF, nltT, nltF, hsT, hsO, hwt, hlt1]; rfl)) ?_
  refine RegO.opN 7 (by simp (maxSteps := 200000) (disch := first | omega | (simp; done) | fail) [wrapI, leT, leF, ltT, ltF, eqF, nleT, nleF, nltT, nltF, hsT, hsO, hwt, hlt1]; rfl) ?_
  refine RegO.stepT (by simp (maxSteps := 200000) (disch := first | omega | (simp; done) | fail) [wrapI, leT, leF, ltT, ltF, eqF, nleT, nleF, nltT, nltF, hsT, hsO, hwt, hlt1]) (OpStep.callA rfl (by simp (maxSteps := 200000) (disch := first | omega | (simp; done) | fail) [wrapI, leT, leF, ltT, ltF, eqF, nleT, nleF, nltT, nltF, hsT, hsO, hwt, hlt1]; exact ⟨rfl, rfl⟩) (by simp (maxSteps := 200000) (disch := first | omega | (simp; done) | fail) [wrapI, leT, leF, ltT, ltF, eqF, nleT, nleF, nltT, nltF, hsT, hsO, hwt, hlt1]; rfl) (by exact l01In_spec _ _ _) (by simp) (by simp (maxSteps := 200000) (disch := first | omega | (simp; done) | fail) [wrapI, leT, leF, ltT, ltF, eqF, nleT, nleF, nltT, nltF, hsT, hsO, hwt, hlt1]; rfl)) ?_
  refine RegO.opN 2 (by simp (maxSteps := 200000) (disch := first | omega | (simp; done) | fail) [wrapI, leT, leF, ltT, ltF, eqF, nleT, nleF, nltT, nltF, hsT, hsO, hwt, hlt1]; rfl) ?_
  refine RegO.nil ?_
  refine DW.condF (by simp (maxSteps := 200000) (disch := first | omega | (simp; done) | fail) [wrapI, leT, leF, ltT, ltF, eqF, nleT, nleF, nltT, nltF, hsT, hsO, hwt, hlt1]) ?_
  refine DW.skip ?_
  refine DW.seq ?_
  refine DW.reg (by simp [hsT, hsO, hwt, hlt1, app_get hA, app_get0 hA, app_set hA, app_set0 hA, hdA, Nat.add_assoc]; rfl) ?_
  refine DW.norm [(1, _), (4, _), (5, _), (7, _), (8, _)] [(2, _), (4, _), (5, _), (7, _), (8, _)] [] (by simp [hsT, hsO, hwt, hlt1]; exact ⟨rfl, rfl, rfl, rfl, rfl⟩) (by simp [hsT, hsO, hwt, hlt1]; exact ⟨rfl, rfl, rfl, rfl, rfl⟩) (by simp [hsT, hsO, hwt, hlt1]) (by rfl) ?_
  refine DW.seq ?_
  refine DW.seq ?_
  refine DW.reg (by simp (maxSteps := 200000) (disch := first | omega | (simp; done) | fail) [wrapI, leT, leF, ltT, ltF, eqF, nleT, nleF, nltT, nltF, hsT, hsO, hwt, hlt1]; rfl) ?_
  refine DW.condF (by simp (maxSteps := 200000) (disch := first | omega | (simp; done) | fail) [wrapI, leT, leF, ltT, ltF, eqF, nleT, nleF, nltT, nltF, hsT, hsO, hwt, hlt1]) ?_
  refine DW.skip ?_
  refine DW.seq ?_
  refine DW.seq ?_
  refine DW.reg (by simp (maxSteps := 200000) (disch := first | omega | (simp; done) | fail) [wrapI, leT, leF, ltT, ltF, eqF, nleT, nleF, nltT, nltF, hsT, hsO, hwt, hlt1]; rfl) ?_
  refine DW.condB (by simp (maxSteps := 200000) (disch := first | omega | (simp; done) | fail) [wrapI, leT, leF, ltT, ltF, eqF, nleT, nleF, nltT, nltF, hsT, hsO, hwt, hlt1]; exact rfl) (fun hc2 => ?_) (fun hc2 => ?_)
  · have hk0 : k < steps.length := by simpa using hc2
    have hk1 : (k : Int) < steps.length := by omega
    have hd := rD_drop steps k hk0
    have hx : steps[k]? = some steps[k] := List.getElem?_eq_getElem hk0
    generalize steps[k] = x at hd hx
    replace hd : List.drop (k * 3) (rD steps) = Step.d x ++ rD (steps.drop (k + 1)) := hd
    have hk2 : k * 3 + 3 ≤ steps.length * 3 := by omega
    have hg0 : (rD steps)[k * 3]? = some (T.sc (.int .i64 x.Kind)) := by
      have h := congrArg (fun l => l[0]?) hd
      simp only [List.getElem?_drop] at h
      simpa using h
    refine DW.seq ?_
    refine DW.drawn mixed (by kernel_rfl) ?_
    refine RegD.addN 8 (by simp [hsT, hsO, hwt, hlt1, hk1, hk2, hd, hg0]; (first | (simp (disch := omega) only [wrapI]; done) | (simp (disch := omega) only [wrapI]; exact ⟨rfl, rfl⟩) | skip); (first | done | exact ⟨rfl, rfl⟩ | rfl)) ?_
    refine RegD.cert (Cert.callHA rfl (by simp) rfl (by decide) (by simp [hsT, hsO, hwt, hlt1, hk1, hk2, hd, hg0]; exact ⟨rfl, rfl⟩) (by simp [hsT, hsO, hwt, hlt1, hk1, hk2, hd, hg0]; rfl) (by exact specStep_spec kept cells x hk hl) rfl (by simp) (by simp) (by simp; rfl) rfl) ?_
    refine RegD.addN 1 (by simp [hsT, hsO, hwt, hlt1, hk1, hk2, hd, hg0]; (first | (simp (disch := omega) only [wrapI]; done) | (simp (disch := omega) only [wrapI]; exact ⟨rfl, rfl⟩) | skip); (first | done | exact ⟨rfl, rfl⟩ | rfl)) ?_
    refine RegD.heavyF (by simp) (by simp [hsT, hsO, hwt, hlt1, hk1, hk2, hd, hg0]; rfl) ?_
    refine RegD.nil ⟨by kernel_rfl, ?_⟩
    refine DW.norm [(1, _), (4, _), (5, _), (7, _), (8, _)] [(2, _), (4, _), (5, _), (7, _), (8, _)] [] (by simp [hsT, hsO, hwt, hlt1, hk1, hk2, hd, hg0]; exact ⟨rfl, rfl, rfl, rfl, rfl⟩) (by simp [hsT, hsO, hwt, hlt1, hk1, hk2, hd, hg0]; exact ⟨rfl, rfl, rfl, rfl, rfl⟩) (by simp [hsT, hsO, hwt, hlt1, hk1, hk2, hd, hg0]) (by rfl) ?_
    refine DW.seq ?_
    refine DW.seq ?_
    refine DW.reg (by simp (maxSteps := 200000) (disch := first | omega | (simp; done) | fail) [wrapI, leT, leF, ltT, ltF, eqF, nleT, nleF, nltT, nltF, hsT, hsO, hwt, hlt1, hk1, hk2, hd, hg0]; rfl) ?_
    refine DW.condB (by simp (maxSteps := 200000) (disch := first | omega | (simp; done) | fail) [wrapI, leT, leF, ltT, ltF, eqF, nleT, nleF, nltT, nltF, hsT, hsO, hwt, hlt1, hk1, hk2, hd, hg0]; exact rfl) (fun hc3 => ?_) (fun hc3 => ?_)
    · have hkd : x.Kind = 3 := by simpa using hc3
      have hm2 : stepMid ⟨G, ⟨kept, cells⟩, J, Z⟩ ⟨ask, res, steps, seals, (k : Int), true, mount⟩ = (⟨G, stepM ⟨kept, cells⟩ x, J, Z ++ seals⟩, ⟨ask, res, steps, [], (k : Int) + 1, true, mount⟩) := by simp [stepMid, hx, hkd, jobNext]
      generalize stepM ⟨kept, cells⟩ x = M2 at hm2 ⊢
      have hkT : True := trivial
      refine DW.seq ?_
      refine DW.reg (by simp [hsT, hsO, hwt, hlt1, hk1, hk2, hd, hg0, hkT, b1, b2, hZT, hZl, hET, hEl, hzl, hzT]; rfl) ?_
      refine DW.norm [(1, _), (4, _), (5, _), (7, _), (8, _)] [(2, _), (4, _), (5, _), (7, _), (8, _)] [] (by simp [hsT, hsO, hwt, hlt1, hk1, hk2, hd, hg0, hkT]; exact ⟨rfl, rfl, rfl, rfl, rfl⟩) (by simp [hsT, hsO, hwt, hlt1, hk1, hk2, hd, hg0, hkT]; exact ⟨rfl, rfl, rfl, rfl, rfl⟩) (by simp [hsT, hsO, hwt, hlt1, hk1, hk2, hd, hg0, hkT]) (by rfl) ?_
      refine DW.reg (by simp [hsT, hsO, hwt, hlt1, hk1, hk2, hd, hg0, hkT]; rfl) ?_
      refine DW.ghost (Ghost.wide 8 [12] 3 (by simp; rfl) (by simp)) ?_
      refine DW.norm [(1, _), (4, _), (5, _), (7, _), (8, _)] [(2, _), (4, _), (5, _), (7, _), (8, _)] [] (by simp [hsT, hsO, hwt, hlt1, hk1, hk2, hd, hg0, hkT]; exact ⟨rfl, rfl, rfl, rfl, rfl⟩) (by simp [hsT, hsO, hwt, hlt1, hk1, hk2, hd, hg0, hkT]; exact ⟨rfl, rfl, rfl, rfl, rfl⟩) (by simp [hsT, hsO, hwt, hlt1, hk1, hk2, hd, hg0, hkT]) (by rfl) ?_
      refine DW.reg (by simp [hsT, hsO, hwt, hlt1, hk1, hk2, hd, hg0, hkT, hw1]; rfl) ?_
      refine DW.norm [(1, _), (4, _), (5, _), (7, _), (8, _)] [(2, _), (4, _), (5, _), (7, _), (8, _)] [] (by simp [hsT, hsO, hwt, hlt1, hk1, hk2, hd, hg0, hkT]; exact ⟨rfl, rfl, rfl, rfl, rfl⟩) (by simp [hsT, hsO, hwt, hlt1, hk1, hk2, hd, hg0, hkT]; exact ⟨rfl, rfl, rfl, rfl, rfl⟩) (by simp [hsT, hsO, hwt, hlt1, hk1, hk2, hd, hg0, hkT]) (by rfl) ?_
      refine DW.seq ?_
      refine DW.seq ?_
      refine DW.reg (by simp (maxSteps := 200000) (disch := first | omega | (simp; done) | fail) [wrapI, leT, leF, ltT, ltF, eqF, nleT, nleF, nltT, nltF, hsT, hsO, hwt, hlt1, hk1, hk2, hd, hg0, hkT]; rfl) ?_
      refine DW.condB (by simp (maxSteps := 200000) (disch := first | omega | (simp; done) | fail) [wrapI, leT, leF, ltT, ltF, eqF, nleT, nleF, nltT, nltF, hsT, hsO, hwt, hlt1, hk1, hk2, hd, hg0, hkT]; exact rfl) (fun hc4 => ?_) (fun hc4 => ?_)
      · have hk3 : (k : Int) + 1 < steps.length := by simpa using hc4
        have hres : stepJob ⟨G, ⟨kept, cells⟩, J, Z⟩ A.length = (setJob ⟨G, M2, J, Z ++ seals⟩ A.length ⟨ask, res, steps, [], (k : Int) + 1, true, mount⟩, resZ, 0) := by rw [hsv, hm2]; unfold stepEnd; rw [if_pos (show ((k : Int) + 1).toNat < steps.length by omega)]
        refine DW.seq ?_
        refine DW.reg (by simp [hsT, hsO, hwt, hlt1, hk1, hk2, hd, hg0, hkT, hk3, app_get hA, app_get0 hA, app_set hA, app_set0 hA, hdA, Nat.add_assoc, hTJ, hle, hA, hzl, hzT]; rfl) ?_
        refine DW.norm [(4, _), (5, _), (7, _)] [(2, _), (4, _), (5, _), (7, _)] [] (by simp [hsT, hsO, hwt, hlt1, hk1, hk2, hd, hg0, hkT, hk3]; exact ⟨rfl, rfl, rfl⟩) (by simp [hsT, hsO, hwt, hlt1, hk1, hk2, hd, hg0, hkT, hk3]; exact ⟨rfl, rfl, rfl, rfl⟩) (by simp [hsT, hsO, hwt, hlt1, hk1, hk2, hd, hg0, hkT, hk3]) (by rfl) ?_
        refine DW.seq ?_
        refine DW.reg (by simp [hsT, hsO, hwt, hlt1, hk1, hk2, hd, hg0, hkT, hk3, hTJ, hle, hA, hzl, hzT]; rfl) ?_
        refine DW.ghost (Ghost.wide 5 [4] 1 (by simp; rfl) (by simp)) ?_
        refine DW.ret ?_
        rw [hres]
        simp [Tryz.results35, setJob, hset, resZ, jobZ, rD_append, hTJ, hle, hA, hzl, hzT]
      · have hk3 : ¬ (k : Int) + 1 < steps.length := by simpa using hc4
        refine DW.skip ?_
        refine DW.seq ?_
        refine DW.reg (by simp [hsT, hsO, hwt, hlt1, hk1, hk2, hd, hg0, hkT, hk3, app_get hA, app_get0 hA, app_set hA, app_set0 hA, hdA, Nat.add_assoc, hTJ, hle, hA, hzl, hzT]; rfl) ?_
        refine DW.ghost (Ghost.wide 7 [6, A.length * 16 + 10] 1 (by simp [app_get hA, app_get0 hA, app_set hA, app_set0 hA, hdA, Nat.add_assoc]; rfl) (by simp [app_get hA, app_get0 hA, app_set hA, app_set0 hA, hdA, Nat.add_assoc])) ?_
        refine DW.ghost (Ghost.wide 7 [6, A.length * 16 + 11] 3 (by simp [app_get hA, app_get0 hA, app_set hA, app_set0 hA, hdA, Nat.add_assoc]; rfl) (by simp [app_get hA, app_get0 hA, app_set hA, app_set0 hA, hdA, Nat.add_assoc])) ?_
        refine DW.ghost (Ghost.wide 7 [6, A.length * 16 + 12] 3 (by simp [app_get hA, app_get0 hA, app_set hA, app_set0 hA, hdA, Nat.add_assoc]; rfl) (by simp [app_get hA, app_get0 hA, app_set hA, app_set0 hA, hdA, Nat.add_assoc])) ?_
        refine DW.norm [(4, _), (5, _), (7, _), (8, _)] [(2, _), (4, _), (5, _), (7, _), (8, _)] [] (by simp [hsT, hsO, hwt, hlt1, hk1, hk2, hd, hg0, hkT, hk3]; exact ⟨rfl, rfl, rfl, rfl⟩) (by simp [hsT, hsO, hwt, hlt1, hk1, hk2, hd, hg0, hkT, hk3]; exact ⟨rfl, rfl, rfl, rfl, rfl⟩) (by simp [hsT, hsO, hwt, hlt1, hk1, hk2, hd, hg0, hkT, hk3]) (by rfl) ?_
        refine DW.seq ?_
        refine DW.seq ?_
        refine DW.reg (by simp (maxSteps := 200000) (disch := first | omega | (simp; done) | fail) [wrapI, leT, leF, ltT, ltF, eqF, nleT, nleF, nltT, nltF, hsT, hsO, hwt, hlt1, hk1, hk2, hd, hg0, hkT, hk3]; rfl) ?_
        refine DW.condB (by simp (maxSteps := 200000) (disch := first | omega | (simp; done) | fail) [wrapI, leT, leF, ltT, ltF, eqF, nleT, nleF, nltT, nltF, hsT, hsO, hwt, hlt1, hk1, hk2, hd, hg0, hkT, hk3]; exact rfl) (fun hc5 => ?_) (fun hc5 => ?_)
        · have hmt : mount = true := by simpa using hc5
          have hse : stepEnd (⟨G, M2, J, Z ++ seals⟩, ⟨ask, res, steps, [], (k : Int) + 1, true, mount⟩) A.length = (setJob ⟨G, M2, J, Z ++ seals⟩ A.length jobZ, if mount = true then resZ else res, 1) := by unfold stepEnd; rw [if_neg (show ¬ ((k : Int) + 1).toNat < steps.length by omega)]
          have hres : stepJob ⟨G, ⟨kept, cells⟩, J, Z⟩ A.length = (setJob ⟨G, M2, J, Z ++ seals⟩ A.length jobZ, resZ, 1) := by rw [hsv, hm2, hse, if_pos hmt]
          refine DW.seq ?_
          refine DW.reg (by simp [hsT, hsO, hwt, hlt1, hk1, hk2, hd, hg0, hkT, hk3, hmt, hTJ, hle, hA, hzl, hzT]; rfl) ?_
          refine DW.ghost (Ghost.wide 5 [4] 1 (by simp; rfl) (by simp)) ?_
          refine DW.ret ?_
          rw [hres]
          simp [Tryz.results35, setJob, hset, resZ, jobZ, rD_append, hTJ, hle, hA, hzl, hzT]
        · have hmt : mount = false := by simpa using hc5
          have hse : stepEnd (⟨G, M2, J, Z ++ seals⟩, ⟨ask, res, steps, [], (k : Int) + 1, true, mount⟩) A.length = (setJob ⟨G, M2, J, Z ++ seals⟩ A.length jobZ, if mount = true then resZ else res, 1) := by unfold stepEnd; rw [if_neg (show ¬ ((k : Int) + 1).toNat < steps.length by omega)]
          have hres : stepJob ⟨G, ⟨kept, cells⟩, J, Z⟩ A.length = (setJob ⟨G, M2, J, Z ++ seals⟩ A.length jobZ, res, 1) := by rw [hsv, hm2, hse]; simp [hmt]
          refine DW.skip ?_
          refine DW.seq ?_
          refine DW.drawnK (fun j => if j = 3 then [1, 2] else []) (fun _ => [94, 95]) (fun _ => fun v => pzV 4 [7] (pzV 7 [7] (pzV 4 [6] (pzV 7 [6] (pzV 4 [5] (pzV 7 [5] v)))))) mixed (by kernel_rfl) ?_
          refine RegK.cert (cert_of_addF (by simp [hsT, hsO, hwt, hlt1, hk1, hk2, hd, hg0, hkT, hk3, hmt, hTJ, hle, hA, hzl, hzT]; rfl)) (by intro j; by_cases h : j = 3 <;> simp [h]) ?_
          refine RegK.add (by simp [hsT, hsO, hwt, hlt1, hk1, hk2, hd, hg0, hkT, hk3, hmt, hTJ, hle, hA, hzl, hzT]; rfl) (by simp) ?_
          refine RegK.add (by simp [hsT, hsO, hwt, hlt1, hk1, hk2, hd, hg0, hkT, hk3, hmt, hTJ, hle, hA, hzl, hzT]; rfl) (by simp) ?_
          refine RegK.swapS [4, 93] rfl (fun e' he => by
            have h4 := he 4 (by simp)
            have h93 := he 93 (by simp)
            simp [hsT, hsO, hwt, hlt1, hk1, hk2, hd, hg0, hkT, hk3, hmt, hTJ, hle, hA, hzl, hzT] at h4 h93
            simp [h4, h93, hsT, hsO, hwt, hlt1, hk1, hk2, hd, hg0, hkT, hk3, hmt, hTJ, hle, hA, hzl, hzT]; exact ⟨rfl, rfl⟩) (by simp) (by simp) (by simp) (by
            intro k hk d L R hp
            simp at hk
            rcases hk with rfl | rfl
            · simp at hp; obtain ⟨rfl, rfl, rfl⟩ := hp; simp [hmt]
            · simp at hp; obtain ⟨rfl, rfl, rfl⟩ := hp; simp [hmt]) ?_
          refine RegK.heavyF (by simp) (by simp [hsT, hsO, hwt, hlt1, hk1, hk2, hd, hg0, hkT, hk3, hmt, hTJ, hle, hA, hzl, hzT]; rfl) (by simp) ?_
          refine RegK.cert (cert_of_addF (by simp [hsT, hsO, hwt, hlt1, hk1, hk2, hd, hg0, hkT, hk3, hmt, hTJ, hle, hA, hzl, hzT]; rfl)) (by intro j; by_cases h : j = 3 <;> simp [h]) ?_
          refine ⟨by kernel_rfl, ?_⟩
          refine DW.ret ?_
          rw [hres]
          simp [Tryz.results35, setJob, hset, resZ, jobZ, rD_append, hTJ, hle, hA, hzl, hzT]
    · have hkd : ¬ x.Kind = 3 := by simpa using hc3
      have hm2 : stepMid ⟨G, ⟨kept, cells⟩, J, Z⟩ ⟨ask, res, steps, seals, (k : Int), true, mount⟩ = (⟨G, stepM ⟨kept, cells⟩ x, J, Z⟩, ⟨ask, res, steps, seals, (k : Int) + 1, true, mount⟩) := by simp [stepMid, hx, hkd, jobNext]
      generalize stepM ⟨kept, cells⟩ x = M2 at hm2 ⊢
      have hkF : True := trivial
      refine DW.skip ?_
      refine DW.reg (by simp [hsT, hsO, hwt, hlt1, hk1, hk2, hd, hg0, hkF, hw1]; rfl) ?_
      refine DW.norm [(1, _), (4, _), (5, _), (7, _), (8, _)] [(2, _), (4, _), (5, _), (7, _), (8, _)] [] (by simp [hsT, hsO, hwt, hlt1, hk1, hk2, hd, hg0, hkF]; exact ⟨rfl, rfl, rfl, rfl, rfl⟩) (by simp [hsT, hsO, hwt, hlt1, hk1, hk2, hd, hg0, hkF]; exact ⟨rfl, rfl, rfl, rfl, rfl⟩) (by simp [hsT, hsO, hwt, hlt1, hk1, hk2, hd, hg0, hkF]) (by rfl) ?_
      refine DW.seq ?_
      refine DW.seq ?_
      refine DW.reg (by simp (maxSteps := 200000) (disch := first | omega | (simp; done) | fail) [wrapI, leT, leF, ltT, ltF, eqF, nleT, nleF, nltT, nltF, hsT, hsO, hwt, hlt1, hk1, hk2, hd, hg0, hkF]; rfl) ?_
      refine DW.condB (by simp (maxSteps := 200000) (disch := first | omega | (simp; done) | fail) [wrapI, leT, leF, ltT, ltF, eqF, nleT, nleF, nltT, nltF, hsT, hsO, hwt, hlt1, hk1, hk2, hd, hg0, hkF]; exact rfl) (fun hc6 => ?_) (fun hc6 => ?_)
      · have hk3 : (k : Int) + 1 < steps.length := by simpa using hc6
        have hres : stepJob ⟨G, ⟨kept, cells⟩, J, Z⟩ A.length = (setJob ⟨G, M2, J, Z⟩ A.length ⟨ask, res, steps, seals, (k : Int) + 1, true, mount⟩, resZ, 0) := by rw [hsv, hm2]; unfold stepEnd; rw [if_pos (show ((k : Int) + 1).toNat < steps.length by omega)]
        refine DW.seq ?_
        refine DW.reg (by simp [hsT, hsO, hwt, hlt1, hk1, hk2, hd, hg0, hkF, hk3, app_get hA, app_get0 hA, app_set hA, app_set0 hA, hdA, Nat.add_assoc, hTJ, hle, hA, hzl, hzT]; rfl) ?_
        refine DW.norm [(4, _), (5, _), (7, _)] [(2, _), (4, _), (5, _), (7, _)] [] (by simp [hsT, hsO, hwt, hlt1, hk1, hk2, hd, hg0, hkF, hk3]; exact ⟨rfl, rfl, rfl⟩) (by simp [hsT, hsO, hwt, hlt1, hk1, hk2, hd, hg0, hkF, hk3]; exact ⟨rfl, rfl, rfl, rfl⟩) (by simp [hsT, hsO, hwt, hlt1, hk1, hk2, hd, hg0, hkF, hk3]) (by rfl) ?_
        refine DW.seq ?_
        refine DW.reg (by simp [hsT, hsO, hwt, hlt1, hk1, hk2, hd, hg0, hkF, hk3, hTJ, hle, hA, hzl, hzT]; rfl) ?_
        refine DW.ghost (Ghost.wide 5 [4] 1 (by simp; rfl) (by simp)) ?_
        refine DW.ret ?_
        rw [hres]
        simp [Tryz.results35, setJob, hset, resZ, jobZ, rD_append, hTJ, hle, hA, hzl, hzT]
      · have hk3 : ¬ (k : Int) + 1 < steps.length := by simpa using hc6
        refine DW.skip ?_
        refine DW.seq ?_
        refine DW.reg (by simp [hsT, hsO, hwt, hlt1, hk1, hk2, hd, hg0, hkF, hk3, app_get hA, app_get0 hA, app_set hA, app_set0 hA, hdA, Nat.add_assoc, hTJ, hle, hA, hzl, hzT]; rfl) ?_
        refine DW.ghost (Ghost.wide 7 [6, A.length * 16 + 10] 1 (by simp [app_get hA, app_get0 hA, app_set hA, app_set0 hA, hdA, Nat.add_assoc]; rfl) (by simp [app_get hA, app_get0 hA, app_set hA, app_set0 hA, hdA, Nat.add_assoc])) ?_
        refine DW.ghost (Ghost.wide 7 [6, A.length * 16 + 11] 3 (by simp [app_get hA, app_get0 hA, app_set hA, app_set0 hA, hdA, Nat.add_assoc]; rfl) (by simp [app_get hA, app_get0 hA, app_set hA, app_set0 hA, hdA, Nat.add_assoc])) ?_
        refine DW.ghost (Ghost.wide 7 [6, A.length * 16 + 12] 3 (by simp [app_get hA, app_get0 hA, app_set hA, app_set0 hA, hdA, Nat.add_assoc]; rfl) (by simp [app_get hA, app_get0 hA, app_set hA, app_set0 hA, hdA, Nat.add_assoc])) ?_
        refine DW.norm [(4, _), (5, _), (7, _), (8, _)] [(2, _), (4, _), (5, _), (7, _), (8, _)] [] (by simp [hsT, hsO, hwt, hlt1, hk1, hk2, hd, hg0, hkF, hk3]; exact ⟨rfl, rfl, rfl, rfl⟩) (by simp [hsT, hsO, hwt, hlt1, hk1, hk2, hd, hg0, hkF, hk3]; exact ⟨rfl, rfl, rfl, rfl, rfl⟩) (by simp [hsT, hsO, hwt, hlt1, hk1, hk2, hd, hg0, hkF, hk3]) (by rfl) ?_
        refine DW.seq ?_
        refine DW.seq ?_
        refine DW.reg (by simp (maxSteps := 200000) (disch := first | omega | (simp; done) | fail) [wrapI, leT, leF, ltT, ltF, eqF, nleT, nleF, nltT, nltF, hsT, hsO, hwt, hlt1, hk1, hk2, hd, hg0, hkF, hk3]; rfl) ?_
        refine DW.condB (by simp (maxSteps := 200000) (disch := first | omega | (simp; done) | fail) [wrapI, leT, leF, ltT, ltF, eqF, nleT, nleF, nltT, nltF, hsT, hsO, hwt, hlt1, hk1, hk2, hd, hg0, hkF, hk3]; exact rfl) (fun hc7 => ?_) (fun hc7 => ?_)
        · have hmt : mount = true := by simpa using hc7
          have hse : stepEnd (⟨G, M2, J, Z⟩, ⟨ask, res, steps, seals, (k : Int) + 1, true, mount⟩) A.length = (setJob ⟨G, M2, J, Z⟩ A.length jobZ, if mount = true then resZ else res, 1) := by unfold stepEnd; rw [if_neg (show ¬ ((k : Int) + 1).toNat < steps.length by omega)]
          have hres : stepJob ⟨G, ⟨kept, cells⟩, J, Z⟩ A.length = (setJob ⟨G, M2, J, Z⟩ A.length jobZ, resZ, 1) := by rw [hsv, hm2, hse, if_pos hmt]
          refine DW.seq ?_
          refine DW.reg (by simp [hsT, hsO, hwt, hlt1, hk1, hk2, hd, hg0, hkF, hk3, hmt, hTJ, hle, hA, hzl, hzT]; rfl) ?_
          refine DW.ghost (Ghost.wide 5 [4] 1 (by simp; rfl) (by simp)) ?_
          refine DW.ret ?_
          rw [hres]
          simp [Tryz.results35, setJob, hset, resZ, jobZ, rD_append, hTJ, hle, hA, hzl, hzT]
        · have hmt : mount = false := by simpa using hc7
          have hse : stepEnd (⟨G, M2, J, Z⟩, ⟨ask, res, steps, seals, (k : Int) + 1, true, mount⟩) A.length = (setJob ⟨G, M2, J, Z⟩ A.length jobZ, if mount = true then resZ else res, 1) := by unfold stepEnd; rw [if_neg (show ¬ ((k : Int) + 1).toNat < steps.length by omega)]
          have hres : stepJob ⟨G, ⟨kept, cells⟩, J, Z⟩ A.length = (setJob ⟨G, M2, J, Z⟩ A.length jobZ, res, 1) := by rw [hsv, hm2, hse]; simp [hmt]
          refine DW.skip ?_
          refine DW.seq ?_
          refine DW.drawnK (fun j => if j = 3 then [1, 2] else []) (fun _ => [94, 95]) (fun _ => fun v => pzV 4 [7] (pzV 7 [7] (pzV 4 [6] (pzV 7 [6] (pzV 4 [5] (pzV 7 [5] v)))))) mixed (by kernel_rfl) ?_
          refine RegK.cert (cert_of_addF (by simp [hsT, hsO, hwt, hlt1, hk1, hk2, hd, hg0, hkF, hk3, hmt, hTJ, hle, hA, hzl, hzT]; rfl)) (by intro j; by_cases h : j = 3 <;> simp [h]) ?_
          refine RegK.add (by simp [hsT, hsO, hwt, hlt1, hk1, hk2, hd, hg0, hkF, hk3, hmt, hTJ, hle, hA, hzl, hzT]; rfl) (by simp) ?_
          refine RegK.add (by simp [hsT, hsO, hwt, hlt1, hk1, hk2, hd, hg0, hkF, hk3, hmt, hTJ, hle, hA, hzl, hzT]; rfl) (by simp) ?_
          refine RegK.swapS [4, 93] rfl (fun e' he => by
            have h4 := he 4 (by simp)
            have h93 := he 93 (by simp)
            simp [hsT, hsO, hwt, hlt1, hk1, hk2, hd, hg0, hkF, hk3, hmt, hTJ, hle, hA, hzl, hzT] at h4 h93
            simp [h4, h93, hsT, hsO, hwt, hlt1, hk1, hk2, hd, hg0, hkF, hk3, hmt, hTJ, hle, hA, hzl, hzT]; exact ⟨rfl, rfl⟩) (by simp) (by simp) (by simp) (by
            intro k hk d L R hp
            simp at hk
            rcases hk with rfl | rfl
            · simp at hp; obtain ⟨rfl, rfl, rfl⟩ := hp; simp [hmt]
            · simp at hp; obtain ⟨rfl, rfl, rfl⟩ := hp; simp [hmt]) ?_
          refine RegK.heavyF (by simp) (by simp [hsT, hsO, hwt, hlt1, hk1, hk2, hd, hg0, hkF, hk3, hmt, hTJ, hle, hA, hzl, hzT]; rfl) (by simp) ?_
          refine RegK.cert (cert_of_addF (by simp [hsT, hsO, hwt, hlt1, hk1, hk2, hd, hg0, hkF, hk3, hmt, hTJ, hle, hA, hzl, hzT]; rfl)) (by intro j; by_cases h : j = 3 <;> simp [h]) ?_
          refine ⟨by kernel_rfl, ?_⟩
          refine DW.ret ?_
          rw [hres]
          simp [Tryz.results35, setJob, hset, resZ, jobZ, rD_append, hTJ, hle, hA, hzl, hzT]
  · have hno : True := trivial
    have hk1 : ¬ (k : Int) < steps.length := by
      have : ¬ k < steps.length := by simpa using hc2
      omega
    have hm2 : stepMid ⟨G, ⟨kept, cells⟩, J, Z⟩ ⟨ask, res, steps, seals, (k : Int), true, mount⟩ = (⟨G, ⟨kept, cells⟩, J, Z⟩, ⟨ask, res, steps, seals, (k : Int), true, mount⟩) := by
      have : steps[k]? = none := List.getElem?_eq_none (by omega)
      simp [stepMid, this]
    refine DW.skip ?_
    refine DW.seq ?_
    refine DW.seq ?_
    refine DW.reg (by simp (maxSteps := 200000) (disch := first | omega | (simp; done) | fail) [wrapI, leT, leF, ltT, ltF, eqF, nleT, nleF, nltT, nltF, hsT, hsO, hwt, hlt1, hk1, hno]; rfl) ?_
    refine DW.condF (by simp (maxSteps := 200000) (disch := first | omega | (simp; done) | fail) [wrapI, leT, leF, ltT, ltF, eqF, nleT, nleF, nltT, nltF, hsT, hsO, hwt, hlt1, hk1, hno]) ?_
    refine DW.skip ?_
    refine DW.seq ?_
    refine DW.reg (by simp [hsT, hsO, hwt, hlt1, hk1, hno, app_get hA, app_get0 hA, app_set hA, app_set0 hA, hdA, Nat.add_assoc, hTJ, hle, hA, hzl, hzT]; rfl) ?_
    refine DW.ghost (Ghost.wide 7 [6, A.length * 16 + 10] 1 (by simp [app_get hA, app_get0 hA, app_set hA, app_set0 hA, hdA, Nat.add_assoc]; rfl) (by simp [app_get hA, app_get0 hA, app_set hA, app_set0 hA, hdA, Nat.add_assoc])) ?_
    refine DW.ghost (Ghost.wide 7 [6, A.length * 16 + 11] 3 (by simp [app_get hA, app_get0 hA, app_set hA, app_set0 hA, hdA, Nat.add_assoc]; rfl) (by simp [app_get hA, app_get0 hA, app_set hA, app_set0 hA, hdA, Nat.add_assoc])) ?_
    refine DW.ghost (Ghost.wide 7 [6, A.length * 16 + 12] 3 (by simp [app_get hA, app_get0 hA, app_set hA, app_set0 hA, hdA, Nat.add_assoc]; rfl) (by simp [app_get hA, app_get0 hA, app_set hA, app_set0 hA, hdA, Nat.add_assoc])) ?_
    refine DW.norm [(4, _), (5, _), (7, _), (8, _)] [(2, _), (4, _), (5, _), (7, _), (8, _)] [] (by simp [hsT, hsO, hwt, hlt1, hk1, hno]; exact ⟨rfl, rfl, rfl, rfl⟩) (by simp [hsT, hsO, hwt, hlt1, hk1, hno]; exact ⟨rfl, rfl, rfl, rfl, rfl⟩) (by simp [hsT, hsO, hwt, hlt1, hk1, hno]) (by rfl) ?_
    refine DW.seq ?_
    refine DW.seq ?_
    refine DW.reg (by simp (maxSteps := 200000) (disch := first | omega | (simp; done) | fail) [wrapI, leT, leF, ltT, ltF, eqF, nleT, nleF, nltT, nltF, hsT, hsO, hwt, hlt1, hk1, hno]; rfl) ?_
    refine DW.condB (by simp (maxSteps := 200000) (disch := first | omega | (simp; done) | fail) [wrapI, leT, leF, ltT, ltF, eqF, nleT, nleF, nltT, nltF, hsT, hsO, hwt, hlt1, hk1, hno]; exact rfl) (fun hc9 => ?_) (fun hc9 => ?_)
    · have hmt : mount = true := by simpa using hc9
      have hse : stepEnd (⟨G, ⟨kept, cells⟩, J, Z⟩, ⟨ask, res, steps, seals, (k : Int), true, mount⟩) A.length = (setJob ⟨G, ⟨kept, cells⟩, J, Z⟩ A.length jobZ, if mount = true then resZ else res, 1) := by unfold stepEnd; rw [if_neg (show ¬ ((k : Int)).toNat < steps.length by omega)]
      have hres : stepJob ⟨G, ⟨kept, cells⟩, J, Z⟩ A.length = (setJob ⟨G, ⟨kept, cells⟩, J, Z⟩ A.length jobZ, resZ, 1) := by rw [hsv, hm2, hse, if_pos hmt]
      refine DW.seq ?_
      refine DW.reg (by simp [hsT, hsO, hwt, hlt1, hk1, hno, hmt, hTJ, hle, hA, hzl, hzT]; rfl) ?_
      refine DW.ghost (Ghost.wide 5 [4] 1 (by simp; rfl) (by simp)) ?_
      refine DW.ret ?_
      rw [hres]
      simp [Tryz.results35, setJob, hset, resZ, jobZ, rD_append, hTJ, hle, hA, hzl, hzT]
    · have hmt : mount = false := by simpa using hc9
      have hse : stepEnd (⟨G, ⟨kept, cells⟩, J, Z⟩, ⟨ask, res, steps, seals, (k : Int), true, mount⟩) A.length = (setJob ⟨G, ⟨kept, cells⟩, J, Z⟩ A.length jobZ, if mount = true then resZ else res, 1) := by unfold stepEnd; rw [if_neg (show ¬ ((k : Int)).toNat < steps.length by omega)]
      have hres : stepJob ⟨G, ⟨kept, cells⟩, J, Z⟩ A.length = (setJob ⟨G, ⟨kept, cells⟩, J, Z⟩ A.length jobZ, res, 1) := by rw [hsv, hm2, hse]; simp [hmt]
      refine DW.skip ?_
      refine DW.seq ?_
      refine DW.drawnK (fun j => if j = 3 then [1, 2] else []) (fun _ => [94, 95]) (fun _ => fun v => pzV 4 [7] (pzV 7 [7] (pzV 4 [6] (pzV 7 [6] (pzV 4 [5] (pzV 7 [5] v)))))) mixed (by kernel_rfl) ?_
      refine RegK.cert (cert_of_addF (by simp [hsT, hsO, hwt, hlt1, hk1, hno, hmt, hTJ, hle, hA, hzl, hzT]; rfl)) (by intro j; by_cases h : j = 3 <;> simp [h]) ?_
      refine RegK.add (by simp [hsT, hsO, hwt, hlt1, hk1, hno, hmt, hTJ, hle, hA, hzl, hzT]; rfl) (by simp) ?_
      refine RegK.add (by simp [hsT, hsO, hwt, hlt1, hk1, hno, hmt, hTJ, hle, hA, hzl, hzT]; rfl) (by simp) ?_
      refine RegK.swapS [4, 93] rfl (fun e' he => by
        have h4 := he 4 (by simp)
        have h93 := he 93 (by simp)
        simp [hsT, hsO, hwt, hlt1, hk1, hno, hmt, hTJ, hle, hA, hzl, hzT] at h4 h93
        simp [h4, h93, hsT, hsO, hwt, hlt1, hk1, hno, hmt, hTJ, hle, hA, hzl, hzT]; exact ⟨rfl, rfl⟩) (by simp) (by simp) (by simp) (by
        intro k hk d L R hp
        simp at hk
        rcases hk with rfl | rfl
        · simp at hp; obtain ⟨rfl, rfl, rfl⟩ := hp; simp [hmt]
        · simp at hp; obtain ⟨rfl, rfl, rfl⟩ := hp; simp [hmt]) ?_
      refine RegK.heavyF (by simp) (by simp [hsT, hsO, hwt, hlt1, hk1, hno, hmt, hTJ, hle, hA, hzl, hzT]; rfl) (by simp) ?_
      refine RegK.cert (cert_of_addF (by simp [hsT, hsO, hwt, hlt1, hk1, hno, hmt, hTJ, hle, hA, hzl, hzT]; rfl)) (by intro j; by_cases h : j = 3 <;> simp [h]) ?_
      refine ⟨by kernel_rfl, ?_⟩
      refine DW.ret ?_
      rw [hres]
      simp [Tryz.results35, setJob, hset, resZ, jobZ, rD_append, hTJ, hle, hA, hzl, hzT]
end Go.Proofs.YtjjdjkkhhcbogaaGreat.DM
