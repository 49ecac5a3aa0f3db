import Derived.Test.YtjjdjkkhhcbogaaGreatFG22
namespace Go.Proofs.YtjjdjkkhhcbogaaGreat.DM
set_option linter.unusedVariables false
set_option linter.unusedSimpArgs false
set_option maxRecDepth 4000
set_option maxHeartbeats 8000000
theorem implStep_spec (S : System) (t : Int) (j0 : Job) (hS : Row.sz S ≤ 2 ^ 36) (ht : sysTen S t = true) (hj0 : S.Jobs[t.toNat]? = some j0) : Spec Tryz.prog 109 [.ptr (System.d S), ri t] [some 5, none] (Result.d (stepEnd (stepMid S j0) t.toNat).2.1 ++ [di (stepEnd (stepMid S j0) t.toNat).2.2]) [.ptr (System.d (stepEnd (stepMid S j0) t.toNat).1), ri t] := by
  have hmo : memOk S.Memory.Kept S.Memory.Cells = true := by simp only [sysTen, Bool.and_eq_true] at ht; exact (sysOk_in ht.1).2.1
  obtain ⟨A, j, B, hJ, rfl, hjt⟩ := sysTen_job ht
  have hok := ht
  simp only [sysTen, Bool.and_eq_true] at hok
  obtain ⟨hgi, -, hjl, hjo⟩ := sysOk_in hok.1
  have hin := hjo j (by rw [hJ]; simp)
  obtain ⟨G, ⟨kept, cells⟩, J, Z⟩ := S
  simp only at hJ hjt hgi hjl
  have hz := System_sz ⟨G, ⟨kept, cells⟩, J, Z⟩
  have hzm := Memory_sz ⟨kept, cells⟩
  have hJz : szL J = szL A + (1 + Row.sz j + szL B) := by rw [hJ, szL_append]; rfl
  simp only at hz hzm
  have hjz := Job_sz j
  have hrz := Result_sz j.Result
  have h0l := szL_len Z
  have h1l := szL_len j.Steps
  have h2l := szL_len j.Seals
  have h3l := szL_len cells
  have h4l := szL_len J
  have hk : kept.size < 2 ^ 40 := by omega
  have hl : cells.length < 2 ^ 40 := by omega
  have hA := rD_len_Job A
  have hrD : rD J = rD A ++ (Job.d j ++ rD B) := by rw [hJ]; exact rD_mid A j B
  have hset : ∀ y, rD (J.set A.length y) = rD A ++ (Job.d y ++ rD B) := fun y => by rw [hJ, set_mid]; exact rD_mid A y B
  have hJl : J.length = A.length + (B.length + 1) := by rw [hJ]; simp
  have hlt1 : (A.length : Int) < J.length := by omega
  have hdA : ∀ x : List D, List.drop (A.length * 16) (rD A ++ x) = x := fun x => by rw [← hA]; exact List.drop_left
  have hTJ : ∀ a0 a1 a2 a3 a4 a5 a6 a7 a8 a9 a10 a11 a12 a13 a14 a15 : D, List.take (J.length * 16) (rD A ++ a0 :: a1 :: a2 :: a3 :: a4 :: a5 :: a6 :: a7 :: a8 :: a9 :: a10 :: a11 :: a12 :: a13 :: a14 :: a15 :: rD B) = rD A ++ a0 :: a1 :: a2 :: a3 :: a4 :: a5 :: a6 :: a7 :: a8 :: a9 :: a10 :: a11 :: a12 :: a13 :: a14 :: a15 :: rD B := fun _ _ _ _ _ _ _ _ _ _ _ _ _ _ _ _ => List.take_of_length_le (by rw [List.length_append, hA]; simp; omega)
  have hle : J.length * 16 ≤ A.length * 16 + (B.length * 16 + 1 + 1 + 1 + 1 + 1 + 1 + 1 + 1 + 1 + 1 + 1 + 1 + 1 + 1 + 1 + 1) := by omega
  have hwt := wr (G.Tenants - 1) (by have := hgi.t; omega) (by have := hgi.t; omega)
  have hsT := hok.2
  have hsO := hok.1
  have hsv : stepJob ⟨G, ⟨kept, cells⟩, J, Z⟩ A.length = if j.Busy = true then stepEnd (stepMid ⟨G, ⟨kept, cells⟩, J, Z⟩ j) A.length else (⟨G, ⟨kept, cells⟩, J, Z⟩, resZ, 3) := by
    unfold stepJob; rw [if_pos ht, hjt]; rfl
  rw [hjt] at hj0
  obtain rfl := Option.some.inj hj0
  obtain ⟨ask, res, steps, seals, at_, busy, mount⟩ := j
  simp only at hin hjz hrz h1l h2l
  obtain ⟨k, rfl⟩ := Int.eq_ofNat_of_zero_le hin.1
  have hw1 := wr ((k : Int) + 1) (by omega) (by omega)
  have b1 : (Z.length + seals.length) * 48 ≤ 140737488355328 := by omega
  have b2 : Z.length + seals.length ≤ 140737488355328 := by omega
  have hZT := rD_take_Sealing Z
  have hZl := rD_len_Sealing Z
  have hET := rD_take_Sealing seals
  have hEl := rD_len_Sealing seals
  have hzl : (Z.length + seals.length) * 3 ≤ Z.length * 3 + seals.length * 3 := by omega
  have hzT : List.take ((Z.length + seals.length) * 3) (rD Z ++ rD seals) = rD Z ++ rD seals := List.take_of_length_le (by simp; omega)
  have hdA6 : ∀ x : List D, List.drop (A.length * 16 + 6) (rD A ++ x) = List.drop 6 x := fun x => by rw [← List.drop_drop, hdA]
  rw [Int.toNat_natCast]
  simp only [System.d, hrD]
  refine Spec.intro Tryz.func109 rfl rfl Tryz.ntmps109 rfl (by simp) ?_
  refine DW.seq ?_
  refine DW.reg (by simp (maxSteps := 200000) (disch := first | omega | (simp; done) | fail) [wrapI, leT, leF, ltT, ltF, eqF, nleT, nleF, nltT, nltF, hlt1, app_get hA, app_get0 hA, app_set hA, app_set0 hA, hdA, Nat.add_assoc]; rfl) ?_
  refine DW.seq ?_
  refine DW.reg (by simp (maxSteps := 200000) (disch := first | omega | (simp; done) | fail) [wrapI, leT, leF, ltT, ltF, eqF, nleT, nleF, nltT, nltF, hlt1, app_get hA, app_get0 hA, app_set hA, app_set0 hA, hdA, Nat.add_assoc]; rfl) ?_
  refine DW.seq ?_
  refine DW.seq ?_
  refine DW.drawn mixed (by kernel_rfl) ?_
  refine RegD.addN 10 (by simp [hlt1, app_get hA, app_get0 hA, app_set hA, app_set0 hA, hdA, Nat.add_assoc]; (first | (simp (disch := omega) only [wrapI]; done) | (simp (disch := omega) only [wrapI]; exact ⟨rfl, rfl⟩) | skip); (first | done | exact ⟨rfl, rfl⟩ | rfl)) ?_
  refine RegD.nil ⟨by kernel_rfl, ?_⟩
  refine DW.condB (by simp (maxSteps := 200000) (disch := first | omega | (simp; done) | fail) [wrapI, leT, leF, ltT, ltF, eqF, nleT, nleF, nltT, nltF, hlt1, app_get hA, app_get0 hA, app_set hA, app_set0 hA, hdA, Nat.add_assoc]; exact rfl) (fun hc0 => ?_) (fun hc0 => ?_)
  · have hk0 : k < steps.length := by simpa [app_get hA, app_get0 hA, app_set hA, app_set0 hA, hdA, Nat.add_assoc] using hc0
    have hk1 : (k : Int) < steps.length := by omega
    have hd := rD_drop steps k hk0
    have hx : steps[k]? = some steps[k] := List.getElem?_eq_getElem hk0
    generalize steps[k] = x at hd hx
    replace hd : List.drop (k * 3) (rD steps) = Step.d x ++ rD (steps.drop (k + 1)) := hd
    have hk2 : k * 3 + 3 ≤ steps.length * 3 := by omega
    have hg0 : (rD steps)[k * 3]? = some (T.sc (.int .i64 x.Kind)) := by
      have h := congrArg (fun l => l[0]?) hd
      simp only [List.getElem?_drop] at h
      simpa using h
    refine DW.seq ?_
    refine DW.drawn mixed (by kernel_rfl) ?_
    refine RegD.addN 10 (by simp [hlt1, app_get hA, app_get0 hA, app_set hA, app_set0 hA, hdA, Nat.add_assoc, hk1, hk2, hd, hg0]; (first | (simp (disch := omega) only [wrapI]; done) | (simp (disch := omega) only [wrapI]; exact ⟨rfl, rfl⟩) | skip); (first | done | exact ⟨rfl, rfl⟩ | rfl)) ?_
    refine RegD.cert (Cert.alloc rfl rfl rfl (by decide) (by simp; rfl) (by rfl) (by decide) (by simp)) ?_
    refine RegD.heavyF (by simp) (by simp [hlt1, app_get hA, app_get0 hA, app_set hA, app_set0 hA, hdA, Nat.add_assoc, hk1, hk2, hd, hg0]; rfl) ?_
    refine RegD.nil ⟨by kernel_rfl, ?_⟩
    refine DW.norm [(0, _), (4, _), (6, _), (7, _)] [(0, _), (4, _), (7, _)] [(0, _)] (by simp [hlt1, app_get hA, app_get0 hA, app_set hA, app_set0 hA, hdA, Nat.add_assoc, hk1, hk2, hd, hg0]; exact ⟨rfl, rfl, rfl, rfl⟩) (by simp [hlt1, app_get hA, app_get0 hA, app_set hA, app_set0 hA, hdA, Nat.add_assoc, hk1, hk2, hd, hg0]; exact ⟨rfl, rfl, rfl⟩) (by simp [hlt1, app_get hA, app_get0 hA, app_set hA, app_set0 hA, hdA, Nat.add_assoc, hk1, hk2, hd, hg0]; rfl) (by rfl) ?_
    refine DW.seq ?_
    refine DW.drawn mixed (by kernel_rfl) ?_
    refine RegD.addN 4 (by simp [hlt1, app_get hA, app_get0 hA, app_set hA, app_set0 hA, hdA, Nat.add_assoc, hk1, hk2, hd, hg0]; (first | done | exact ⟨rfl, rfl⟩ | rfl)) ?_
    refine RegD.heavy (.inl ⟨by simp [wantedD], OpStep.callP (io := 0) (id := 0) (off := 4) (p := []) (sz := 8) (n := 1) (cs0 := [.sc (.int .i64 G.Tenants), .sc (.int .i64 G.Pages), .sc (.int .i64 G.Inodes), .sc (.int .i64 G.Quota), .sc (.string kept), .ow () 3 cells.length (rD cells), .ow () 16 J.length (rD A ++ (Job.d ⟨ask, res, steps, seals, k, busy, mount⟩ ++ rD B)), .ow () 3 Z.length (rD Z)]) rfl (by simp [callArgs]; rfl) (run_spec kept cells x hmo hk hl) (by simp) rfl rfl (by simp) rfl (by simp) (by simp) (by simp) (by simp [callArgs, FS.lend]; rfl) (by simp [rosOk, roA_, toRC, mapO]) (by simp [widen, ownV, ownC]) (by simp [finish, packDV, packD, ptBack]; rfl)⟩) ?_
    refine RegD.nil ⟨by kernel_rfl, ?_⟩
    refine DW.norm [(0, _), (4, _), (6, _), (7, _)] [(0, _), (4, _), (7, _)] [(0, _)] (by simp [hlt1, app_get hA, app_get0 hA, app_set hA, app_set0 hA, hdA, Nat.add_assoc, hk1, hk2, hd, hg0, mapV, pzR, inR]; exact ⟨rfl, rfl, rfl, rfl⟩) (by simp [hlt1, app_get hA, app_get0 hA, app_set hA, app_set0 hA, hdA, Nat.add_assoc, hk1, hk2, hd, hg0, mapV, pzR, inR]; exact ⟨rfl, rfl, rfl⟩) (by simp [hlt1, app_get hA, app_get0 hA, app_set hA, app_set0 hA, hdA, Nat.add_assoc, hk1, hk2, hd, hg0, mapV, pzR, inR]; rfl) (by rfl) ?_
    refine DW.seq ?_
    refine DW.seq ?_
    refine DW.reg (by simp (maxSteps := 200000) (disch := first | omega | (simp; done) | fail) [wrapI, leT, leF, ltT, ltF, eqF, nleT, nleF, nltT, nltF, hlt1, app_get hA, app_get0 hA, app_set hA, app_set0 hA, hdA, Nat.add_assoc, hk1, hk2, hd, hg0]; rfl) ?_
    refine DW.condB (by simp (maxSteps := 200000) (disch := first | omega | (simp; done) | fail) [wrapI, leT, leF, ltT, ltF, eqF, nleT, nleF, nltT, nltF, hlt1, app_get hA, app_get0 hA, app_set hA, app_set0 hA, hdA, Nat.add_assoc, hk1, hk2, hd, hg0]; exact rfl) (fun hc1 => ?_) (fun hc1 => ?_)
    · have hkd : x.Kind = 3 := by simpa using hc1
      have hm2 : stepMid ⟨G, ⟨kept, cells⟩, J, Z⟩ ⟨ask, res, steps, seals, (k : Int), busy, mount⟩ = (⟨G, stepM ⟨kept, cells⟩ x, J, Z ++ seals⟩, ⟨ask, res, steps, [], (k : Int) + 1, busy, mount⟩) := by simp [stepMid, hx, hkd, jobNext]
      generalize stepM ⟨kept, cells⟩ x = M2 at hm2 ⊢
      have hkT : True := trivial
      refine DW.seq ?_
      refine DW.drawnC 9 0 mixed (by kernel_rfl) ?_
      refine RegC.addN 9 (by simp [hlt1, app_get hA, app_get0 hA, app_set hA, app_set0 hA, hdA, Nat.add_assoc, hk1, hk2, hd, hg0, hkT, b1, b2, hZT, hZl, hET, hEl, hzl, hzT]; (first | done | exact ⟨rfl, rfl⟩ | rfl)) ?_
      refine RegC.swap (ok := _) (d := 43) (show _ = _ from by exact rfl) (by simp; exact ⟨rfl, rfl⟩) (by first | decide | simp) rfl (fun v0 => _) (fun v0 => OpStep.of (by simp [hlt1, app_get hA, app_get0 hA, app_set hA, app_set0 hA, hdA, Nat.add_assoc, hk1, hk2, hd, hg0, hkT, b1, b2, hZT, hZl, hET, hEl, hzl, hzT]; rfl)) (fun v0 => cert_cast (by simp) (by simp) (by simp)) (fun v0 => by simp; funext i; by_cases hi : i = 43 <;> simp [upd, hi]) rfl ?_
      refine RegC.addN 2 (by simp [hlt1, app_get hA, app_get0 hA, app_set hA, app_set0 hA, hdA, Nat.add_assoc, hk1, hk2, hd, hg0, hkT, b1, b2, hZT, hZl, hET, hEl, hzl, hzT]; (first | done | exact ⟨rfl, rfl⟩ | rfl)) ?_
      refine RegC.heavyF (by simp) (by simp [hlt1, app_get hA, app_get0 hA, app_set hA, app_set0 hA, hdA, Nat.add_assoc, hk1, hk2, hd, hg0, hkT, b1, b2, hZT, hZl, hET, hEl, hzl, hzT]; rfl) (by first | decide | simp) ?_
      refine ⟨by kernel_rfl, ?_⟩
      refine DW.norm [(4, _), (6, _)] [(0, _), (4, _), (7, _)] [(0, _)] (by simp [hlt1, app_get hA, app_get0 hA, app_set hA, app_set0 hA, hdA, Nat.add_assoc, hk1, hk2, hd, hg0, hkT]; exact ⟨rfl, rfl⟩) (by simp [hlt1, app_get hA, app_get0 hA, app_set hA, app_set0 hA, hdA, Nat.add_assoc, hk1, hk2, hd, hg0, hkT]; exact ⟨rfl, rfl, rfl⟩) (by simp [hlt1, app_get hA, app_get0 hA, app_set hA, app_set0 hA, hdA, Nat.add_assoc, hk1, hk2, hd, hg0, hkT]; rfl) (by rfl) ?_
      refine DW.reg (by simp [hlt1, app_get hA, app_get0 hA, app_set hA, app_set0 hA, hdA, Nat.add_assoc, hk1, hk2, hd, hg0, hkT]; rfl) ?_
      refine DW.ghost (Ghost.wide 0 [6, A.length * 16 + 12] 3 (by simp [app_get hA, app_get0 hA, app_set hA, app_set0 hA, hdA, Nat.add_assoc]; rfl) (by simp [app_get hA, app_get0 hA, app_set hA, app_set0 hA, hdA, Nat.add_assoc])) ?_
      refine DW.norm [(4, _), (6, _)] [(0, _), (4, _), (7, _)] [(0, _)] (by simp [hlt1, app_get hA, app_get0 hA, app_set hA, app_set0 hA, hdA, Nat.add_assoc, hk1, hk2, hd, hg0, hkT]; exact ⟨rfl, rfl⟩) (by simp [hlt1, app_get hA, app_get0 hA, app_set hA, app_set0 hA, hdA, Nat.add_assoc, hk1, hk2, hd, hg0, hkT]; exact ⟨rfl, rfl, rfl⟩) (by simp [hlt1, app_get hA, app_get0 hA, app_set hA, app_set0 hA, hdA, Nat.add_assoc, hk1, hk2, hd, hg0, hkT]; rfl) (by rfl) ?_
      refine DW.reg (by simp [hlt1, app_get hA, app_get0 hA, app_set hA, app_set0 hA, hdA, Nat.add_assoc, hk1, hk2, hd, hg0, hkT, hw1]; rfl) ?_
      refine DW.norm [(4, _), (6, _)] [(0, _), (4, _)] [(0, _)] (by simp [hlt1, app_get hA, app_get0 hA, app_set hA, app_set0 hA, hdA, Nat.add_assoc, hk1, hk2, hd, hg0, hkT]; exact ⟨rfl, rfl⟩) (by simp [hlt1, app_get hA, app_get0 hA, app_set hA, app_set0 hA, hdA, Nat.add_assoc, hk1, hk2, hd, hg0, hkT]; exact ⟨rfl, rfl⟩) (by simp [hlt1, app_get hA, app_get0 hA, app_set hA, app_set0 hA, hdA, Nat.add_assoc, hk1, hk2, hd, hg0, hkT]; rfl) (by rfl) ?_
      refine DW.seq ?_
      refine DW.seq ?_
      refine DW.drawn mixed (by kernel_rfl) ?_
      refine RegD.addN 10 (by simp [hlt1, app_get hA, app_get0 hA, app_set hA, app_set0 hA, hdA, Nat.add_assoc, hk1, hk2, hd, hg0, hkT]; (first | (simp (disch := omega) only [wrapI]; done) | (simp (disch := omega) only [wrapI]; exact ⟨rfl, rfl⟩) | skip); (first | done | exact ⟨rfl, rfl⟩ | rfl)) ?_
      refine RegD.nil ⟨by kernel_rfl, ?_⟩
      refine DW.condB (by simp (maxSteps := 200000) (disch := first | omega | (simp; done) | fail) [wrapI, leT, leF, ltT, ltF, eqF, nleT, nleF, nltT, nltF, hlt1, app_get hA, app_get0 hA, app_set hA, app_set0 hA, hdA, Nat.add_assoc, hk1, hk2, hd, hg0, hkT]; exact rfl) (fun hc2 => ?_) (fun hc2 => ?_)
      · have hk3 : (k : Int) + 1 < steps.length := by simpa using hc2
        have hres : stepEnd (stepMid ⟨G, ⟨kept, cells⟩, J, Z⟩ ⟨ask, res, steps, seals, (k : Int), busy, mount⟩) A.length = (setJob ⟨G, M2, J, Z ++ seals⟩ A.length ⟨ask, res, steps, [], (k : Int) + 1, busy, mount⟩, resZ, 0) := by rw [hm2]; unfold stepEnd; rw [if_pos (show ((k : Int) + 1).toNat < steps.length by omega)]
        refine DW.seq ?_
        refine DW.reg (by simp [hlt1, app_get hA, app_get0 hA, app_set hA, app_set0 hA, hdA, Nat.add_assoc, hk1, hk2, hd, hg0, hkT, hk3]; rfl) ?_
        refine DW.ghost (Ghost.wide 4 [4] 1 (by simp; rfl) (by simp)) ?_
        refine DW.ret ?_
        rw [hres]
        simp [Tryz.results109, setJob, hset, resZ, jobZ, rD_append, hTJ, hle, hA, hzl, hzT]
      · have hk3 : ¬ (k : Int) + 1 < steps.length := by simpa using hc2
        refine DW.skip ?_
        refine DW.seq ?_
        refine DW.reg (by simp [hlt1, app_get hA, app_get0 hA, app_set hA, app_set0 hA, hdA, Nat.add_assoc, hk1, hk2, hd, hg0, hkT, hk3, hTJ, hle, hA, hzl, hzT, hdA6]; rfl) ?_
        refine DW.norm [(4, _), (6, _), (8, _)] [(0, _), (4, _), (8, _)] [(0, _)] (by simp [hlt1, app_get hA, app_get0 hA, app_set hA, app_set0 hA, hdA, Nat.add_assoc, hk1, hk2, hd, hg0, hkT, hk3]; exact ⟨rfl, rfl, rfl⟩) (by simp [hlt1, app_get hA, app_get0 hA, app_set hA, app_set0 hA, hdA, Nat.add_assoc, hk1, hk2, hd, hg0, hkT, hk3]; exact ⟨rfl, rfl, rfl⟩) (by simp [hlt1, app_get hA, app_get0 hA, app_set hA, app_set0 hA, hdA, Nat.add_assoc, hk1, hk2, hd, hg0, hkT, hk3]; rfl) (by rfl) ?_
        refine DW.seq ?_
        refine DW.seq ?_
        refine DW.reg (by simp (maxSteps := 200000) (disch := first | omega | (simp; done) | fail) [wrapI, leT, leF, ltT, ltF, eqF, nleT, nleF, nltT, nltF, hlt1, app_get hA, app_get0 hA, app_set hA, app_set0 hA, hdA, Nat.add_assoc, hk1, hk2, hd, hg0, hkT, hk3]; rfl) ?_
        refine DW.condB (by simp (maxSteps := 200000) (disch := first | omega | (simp; done) | fail) [wrapI, leT, leF, ltT, ltF, eqF, nleT, nleF, nltT, nltF, hlt1, app_get hA, app_get0 hA, app_set hA, app_set0 hA, hdA, Nat.add_assoc, hk1, hk2, hd, hg0, hkT, hk3]; exact rfl) (fun hc3 => ?_) (fun hc3 => ?_)
        · have hmt : mount = true := by simpa using hc3
          have hse : stepEnd (⟨G, M2, J, Z ++ seals⟩, ⟨ask, res, steps, [], (k : Int) + 1, busy, mount⟩) A.length = (setJob ⟨G, M2, J, Z ++ seals⟩ A.length jobZ, if mount = true then resZ else res, 1) := by unfold stepEnd; rw [if_neg (show ¬ ((k : Int) + 1).toNat < steps.length by omega)]
          have hres : stepEnd (stepMid ⟨G, ⟨kept, cells⟩, J, Z⟩ ⟨ask, res, steps, seals, (k : Int), busy, mount⟩) A.length = (setJob ⟨G, M2, J, Z ++ seals⟩ A.length jobZ, resZ, 1) := by rw [hm2, hse, if_pos hmt]
          refine DW.reg (by simp [hlt1, app_get hA, app_get0 hA, app_set hA, app_set0 hA, hdA, Nat.add_assoc, hk1, hk2, hd, hg0, hkT, hk3, hmt]; rfl) ?_
          refine DW.ghost (Ghost.wide 8 [4] 1 (by simp; rfl) (by simp)) ?_
          refine DW.norm [(4, _), (6, _), (8, _)] [(0, _), (4, _), (8, _)] [(0, _)] (by simp [hlt1, app_get hA, app_get0 hA, app_set hA, app_set0 hA, hdA, Nat.add_assoc, hk1, hk2, hd, hg0, hkT, hk3, hmt]; exact ⟨rfl, rfl, rfl⟩) (by simp [hlt1, app_get hA, app_get0 hA, app_set hA, app_set0 hA, hdA, Nat.add_assoc, hk1, hk2, hd, hg0, hkT, hk3, hmt]; exact ⟨rfl, rfl, rfl⟩) (by simp [hlt1, app_get hA, app_get0 hA, app_set hA, app_set0 hA, hdA, Nat.add_assoc, hk1, hk2, hd, hg0, hkT, hk3, hmt]; rfl) (by rfl) ?_
          refine DW.seq ?_
          refine DW.reg (by simp [hlt1, app_get hA, app_get0 hA, app_set hA, app_set0 hA, hdA, Nat.add_assoc, hk1, hk2, hd, hg0, hkT, hk3, hmt, hTJ, hle, hA, hzl, hzT]; rfl) ?_
          refine DW.ghost (Ghost.wide 0 [6, A.length * 16 + 10] 1 (by simp [app_get hA, app_get0 hA, app_set hA, app_set0 hA, hdA, Nat.add_assoc]; rfl) (by simp [app_get hA, app_get0 hA, app_set hA, app_set0 hA, hdA, Nat.add_assoc])) ?_
          refine DW.ghost (Ghost.wide 0 [6, A.length * 16 + 11] 3 (by simp [app_get hA, app_get0 hA, app_set hA, app_set0 hA, hdA, Nat.add_assoc]; rfl) (by simp [app_get hA, app_get0 hA, app_set hA, app_set0 hA, hdA, Nat.add_assoc])) ?_
          refine DW.ghost (Ghost.wide 0 [6, A.length * 16 + 12] 3 (by simp [app_get hA, app_get0 hA, app_set hA, app_set0 hA, hdA, Nat.add_assoc]; rfl) (by simp [app_get hA, app_get0 hA, app_set hA, app_set0 hA, hdA, Nat.add_assoc])) ?_
          refine DW.norm [(4, _), (8, _)] [(0, _), (4, _), (8, _)] [(0, _)] (by simp [hlt1, app_get hA, app_get0 hA, app_set hA, app_set0 hA, hdA, Nat.add_assoc, hk1, hk2, hd, hg0, hkT, hk3, hmt]; exact ⟨rfl, rfl⟩) (by simp [hlt1, app_get hA, app_get0 hA, app_set hA, app_set0 hA, hdA, Nat.add_assoc, hk1, hk2, hd, hg0, hkT, hk3, hmt]; exact ⟨rfl, rfl, rfl⟩) (by simp [hlt1, app_get hA, app_get0 hA, app_set hA, app_set0 hA, hdA, Nat.add_assoc, hk1, hk2, hd, hg0, hkT, hk3, hmt]; rfl) (by rfl) ?_
          refine DW.seq ?_
          refine DW.reg (by simp [hlt1, app_get hA, app_get0 hA, app_set hA, app_set0 hA, hdA, Nat.add_assoc, hk1, hk2, hd, hg0, hkT, hk3, hmt]; rfl) ?_
          refine DW.ret ?_
          rw [hres]
          simp [Tryz.results109, setJob, hset, resZ, jobZ, rD_append, hTJ, hle, hA, hzl, hzT]
        · have hmt : mount = false := by simpa using hc3
          have hse : stepEnd (⟨G, M2, J, Z ++ seals⟩, ⟨ask, res, steps, [], (k : Int) + 1, busy, mount⟩) A.length = (setJob ⟨G, M2, J, Z ++ seals⟩ A.length jobZ, if mount = true then resZ else res, 1) := by unfold stepEnd; rw [if_neg (show ¬ ((k : Int) + 1).toNat < steps.length by omega)]
          have hres : stepEnd (stepMid ⟨G, ⟨kept, cells⟩, J, Z⟩ ⟨ask, res, steps, seals, (k : Int), busy, mount⟩) A.length = (setJob ⟨G, M2, J, Z ++ seals⟩ A.length jobZ, res, 1) := by rw [hm2, hse]; simp [hmt]
          refine DW.skip ?_
          refine DW.seq ?_
          refine DW.reg (by simp [hlt1, app_get hA, app_get0 hA, app_set hA, app_set0 hA, hdA, Nat.add_assoc, hk1, hk2, hd, hg0, hkT, hk3, hmt, hTJ, hle, hA, hzl, hzT]; rfl) ?_
          refine DW.ghost (Ghost.wide 0 [6, A.length * 16 + 10] 1 (by simp [app_get hA, app_get0 hA, app_set hA, app_set0 hA, hdA, Nat.add_assoc]; rfl) (by simp [app_get hA, app_get0 hA, app_set hA, app_set0 hA, hdA, Nat.add_assoc])) ?_
          refine DW.ghost (Ghost.wide 0 [6, A.length * 16 + 11] 3 (by simp [app_get hA, app_get0 hA, app_set hA, app_set0 hA, hdA, Nat.add_assoc]; rfl) (by simp [app_get hA, app_get0 hA, app_set hA, app_set0 hA, hdA, Nat.add_assoc])) ?_
          refine DW.ghost (Ghost.wide 0 [6, A.length * 16 + 12] 3 (by simp [app_get hA, app_get0 hA, app_set hA, app_set0 hA, hdA, Nat.add_assoc]; rfl) (by simp [app_get hA, app_get0 hA, app_set hA, app_set0 hA, hdA, Nat.add_assoc])) ?_
          refine DW.norm [(4, _), (8, _)] [(0, _), (4, _), (8, _)] [(0, _)] (by simp [hlt1, app_get hA, app_get0 hA, app_set hA, app_set0 hA, hdA, Nat.add_assoc, hk1, hk2, hd, hg0, hkT, hk3, hmt]; exact ⟨rfl, rfl⟩) (by simp [hlt1, app_get hA, app_get0 hA, app_set hA, app_set0 hA, hdA, Nat.add_assoc, hk1, hk2, hd, hg0, hkT, hk3, hmt]; exact ⟨rfl, rfl, rfl⟩) (by simp [hlt1, app_get hA, app_get0 hA, app_set hA, app_set0 hA, hdA, Nat.add_assoc, hk1, hk2, hd, hg0, hkT, hk3, hmt]; rfl) (by rfl) ?_
          refine DW.seq ?_
          refine DW.reg (by simp [hlt1, app_get hA, app_get0 hA, app_set hA, app_set0 hA, hdA, Nat.add_assoc, hk1, hk2, hd, hg0, hkT, hk3, hmt]; rfl) ?_
          refine DW.ret ?_
          rw [hres]
          simp [Tryz.results109, setJob, hset, resZ, jobZ, rD_append, hTJ, hle, hA, hzl, hzT]
    · have hkd : ¬ x.Kind = 3 := by simpa using hc1
      have hm2 : stepMid ⟨G, ⟨kept, cells⟩, J, Z⟩ ⟨ask, res, steps, seals, (k : Int), busy, mount⟩ = (⟨G, stepM ⟨kept, cells⟩ x, J, Z⟩, ⟨ask, res, steps, seals, (k : Int) + 1, busy, mount⟩) := by simp [stepMid, hx, hkd, jobNext]
      generalize stepM ⟨kept, cells⟩ x = M2 at hm2 ⊢
      have hkF : True := trivial
      refine DW.skip ?_
      refine DW.reg (by simp [hlt1, app_get hA, app_get0 hA, app_set hA, app_set0 hA, hdA, Nat.add_assoc, hk1, hk2, hd, hg0, hkF, hw1]; rfl) ?_
      refine DW.norm [(4, _), (6, _)] [(0, _), (4, _)] [(0, _)] (by simp [hlt1, app_get hA, app_get0 hA, app_set hA, app_set0 hA, hdA, Nat.add_assoc, hk1, hk2, hd, hg0, hkF]; exact ⟨rfl, rfl⟩) (by simp [hlt1, app_get hA, app_get0 hA, app_set hA, app_set0 hA, hdA, Nat.add_assoc, hk1, hk2, hd, hg0, hkF]; exact ⟨rfl, rfl⟩) (by simp [hlt1, app_get hA, app_get0 hA, app_set hA, app_set0 hA, hdA, Nat.add_assoc, hk1, hk2, hd, hg0, hkF]; rfl) (by rfl) ?_
      refine DW.seq ?_
      refine DW.seq ?_
      refine DW.drawn mixed (by kernel_rfl) ?_
      refine RegD.addN 10 (by simp [hlt1, app_get hA, app_get0 hA, app_set hA, app_set0 hA, hdA, Nat.add_assoc, hk1, hk2, hd, hg0, hkF]; (first | (simp (disch := omega) only [wrapI]; done) | (simp (disch := omega) only [wrapI]; exact ⟨rfl, rfl⟩) | skip); (first | done | exact ⟨rfl, rfl⟩ | rfl)) ?_
      refine RegD.nil ⟨by kernel_rfl, ?_⟩
      refine DW.condB (by simp (maxSteps := 200000) (disch := first | omega | (simp; done) | fail) [wrapI, leT, leF, ltT, ltF, eqF, nleT, nleF, nltT, nltF, hlt1, app_get hA, app_get0 hA, app_set hA, app_set0 hA, hdA, Nat.add_assoc, hk1, hk2, hd, hg0, hkF]; exact rfl) (fun hc4 => ?_) (fun hc4 => ?_)
      · have hk3 : (k : Int) + 1 < steps.length := by simpa using hc4
        have hres : stepEnd (stepMid ⟨G, ⟨kept, cells⟩, J, Z⟩ ⟨ask, res, steps, seals, (k : Int), busy, mount⟩) A.length = (setJob ⟨G, M2, J, Z⟩ A.length ⟨ask, res, steps, seals, (k : Int) + 1, busy, mount⟩, resZ, 0) := by rw [hm2]; unfold stepEnd; rw [if_pos (show ((k : Int) + 1).toNat < steps.length by omega)]
        refine DW.seq ?_
        refine DW.reg (by simp [hlt1, app_get hA, app_get0 hA, app_set hA, app_set0 hA, hdA, Nat.add_assoc, hk1, hk2, hd, hg0, hkF, hk3]; rfl) ?_
        refine DW.ghost (Ghost.wide 4 [4] 1 (by simp; rfl) (by simp)) ?_
        refine DW.ret ?_
        rw [hres]
        simp [Tryz.results109, setJob, hset, resZ, jobZ, rD_append, hTJ, hle, hA, hzl, hzT]
      · have hk3 : ¬ (k : Int) + 1 < steps.length := by simpa using hc4
        refine DW.skip ?_
        refine DW.seq ?_
        refine DW.reg (by simp [hlt1, app_get hA, app_get0 hA, app_set hA, app_set0 hA, hdA, Nat.add_assoc, hk1, hk2, hd, hg0, hkF, hk3, hTJ, hle, hA, hzl, hzT, hdA6]; rfl) ?_
        refine DW.norm [(4, _), (6, _), (8, _)] [(0, _), (4, _), (8, _)] [(0, _)] (by simp [hlt1, app_get hA, app_get0 hA, app_set hA, app_set0 hA, hdA, Nat.add_assoc, hk1, hk2, hd, hg0, hkF, hk3]; exact ⟨rfl, rfl, rfl⟩) (by simp [hlt1, app_get hA, app_get0 hA, app_set hA, app_set0 hA, hdA, Nat.add_assoc, hk1, hk2, hd, hg0, hkF, hk3]; exact ⟨rfl, rfl, rfl⟩) (by simp [hlt1, app_get hA, app_get0 hA, app_set hA, app_set0 hA, hdA, Nat.add_assoc, hk1, hk2, hd, hg0, hkF, hk3]; rfl) (by rfl) ?_
        refine DW.seq ?_
        refine DW.seq ?_
        refine DW.reg (by simp (maxSteps := 200000) (disch := first | omega | (simp; done) | fail) [wrapI, leT, leF, ltT, ltF, eqF, nleT, nleF, nltT, nltF, hlt1, app_get hA, app_get0 hA, app_set hA, app_set0 hA, hdA, Nat.add_assoc, hk1, hk2, hd, hg0, hkF, hk3]; rfl) ?_
        refine DW.condB (by simp (maxSteps := 200000) (disch := first | omega | (simp; done) | fail) [wrapI, leT, leF, ltT, ltF, eqF, nleT, nleF, nltT, nltF, hlt1, app_get hA, app_get0 hA, app_set hA, app_set0 hA, hdA, Nat.add_assoc, hk1, hk2, hd, hg0, hkF, hk3]; exact rfl) (fun hc5 => ?_) (fun hc5 => ?_)
        · have hmt : mount = true := by simpa using hc5
          have hse : stepEnd (⟨G, M2, J, Z⟩, ⟨ask, res, steps, seals, (k : Int) + 1, busy, mount⟩) A.length = (setJob ⟨G, M2, J, Z⟩ A.length jobZ, if mount = true then resZ else res, 1) := by unfold stepEnd; rw [if_neg (show ¬ ((k : Int) + 1).toNat < steps.length by omega)]
          have hres : stepEnd (stepMid ⟨G, ⟨kept, cells⟩, J, Z⟩ ⟨ask, res, steps, seals, (k : Int), busy, mount⟩) A.length = (setJob ⟨G, M2, J, Z⟩ A.length jobZ, resZ, 1) := by rw [hm2, hse, if_pos hmt]
          refine DW.reg (by simp [hlt1, app_get hA, app_get0 hA, app_set hA, app_set0 hA, hdA, Nat.add_assoc, hk1, hk2, hd, hg0, hkF, hk3, hmt]; rfl) ?_
          refine DW.ghost (Ghost.wide 8 [4] 1 (by simp; rfl) (by simp)) ?_
          refine DW.norm [(4, _), (6, _), (8, _)] [(0, _), (4, _), (8, _)] [(0, _)] (by simp [hlt1, app_get hA, app_get0 hA, app_set hA, app_set0 hA, hdA, Nat.add_assoc, hk1, hk2, hd, hg0, hkF, hk3, hmt]; exact ⟨rfl, rfl, rfl⟩) (by simp [hlt1, app_get hA, app_get0 hA, app_set hA, app_set0 hA, hdA, Nat.add_assoc, hk1, hk2, hd, hg0, hkF, hk3, hmt]; exact ⟨rfl, rfl, rfl⟩) (by simp [hlt1, app_get hA, app_get0 hA, app_set hA, app_set0 hA, hdA, Nat.add_assoc, hk1, hk2, hd, hg0, hkF, hk3, hmt]; rfl) (by rfl) ?_
          refine DW.seq ?_
          refine DW.reg (by simp [hlt1, app_get hA, app_get0 hA, app_set hA, app_set0 hA, hdA, Nat.add_assoc, hk1, hk2, hd, hg0, hkF, hk3, hmt, hTJ, hle, hA, hzl, hzT]; rfl) ?_
          refine DW.ghost (Ghost.wide 0 [6, A.length * 16 + 10] 1 (by simp [app_get hA, app_get0 hA, app_set hA, app_set0 hA, hdA, Nat.add_assoc]; rfl) (by simp [app_get hA, app_get0 hA, app_set hA, app_set0 hA, hdA, Nat.add_assoc])) ?_
          refine DW.ghost (Ghost.wide 0 [6, A.length * 16 + 11] 3 (by simp [app_get hA, app_get0 hA, app_set hA, app_set0 hA, hdA, Nat.add_assoc]; rfl) (by simp [app_get hA, app_get0 hA, app_set hA, app_set0 hA, hdA, Nat.add_assoc])) ?_
          refine DW.ghost (Ghost.wide 0 [6, A.length * 16 + 12] 3 (by simp [app_get hA, app_get0 hA, app_set hA, app_set0 hA, hdA, Nat.add_assoc]; rfl) (by simp [app_get hA, app_get0 hA, app_set hA, app_set0 hA, hdA, Nat.add_assoc])) ?_
          refine DW.norm [(4, _), (8, _)] [(0, _), (4, _), (8, _)] [(0, _)] (by simp [hlt1, app_get hA, app_get0 hA, app_set hA, app_set0 hA, hdA, Nat.add_assoc, hk1, hk2, hd, hg0, hkF, hk3, hmt]; exact ⟨rfl, rfl⟩) (by simp [hlt1, app_get hA, app_get0 hA, app_set hA, app_set0 hA, hdA, Nat.add_assoc, hk1, hk2, hd, hg0, hkF, hk3, hmt]; exact ⟨rfl, rfl, rfl⟩) (by simp [hlt1, app_get hA, app_get0 hA, app_set hA, app_set0 hA, hdA, Nat.add_assoc, hk1, hk2, hd, hg0, hkF, hk3, hmt]; rfl) (by rfl) ?_
          refine DW.seq ?_
          refine DW.reg (by simp [hlt1, app_get hA, app_get0 hA, app_set hA, app_set0 hA, hdA, Nat.add_assoc, hk1, hk2, hd, hg0, hkF, hk3, hmt]; rfl) ?_
          refine DW.ret ?_
          rw [hres]
          simp [Tryz.results109, setJob, hset, resZ, jobZ, rD_append, hTJ, hle, hA, hzl, hzT]
        · have hmt : mount = false := by simpa using hc5
          have hse : stepEnd (⟨G, M2, J, Z⟩, ⟨ask, res, steps, seals, (k : Int) + 1, busy, mount⟩) A.length = (setJob ⟨G, M2, J, Z⟩ A.length jobZ, if mount = true then resZ else res, 1) := by unfold stepEnd; rw [if_neg (show ¬ ((k : Int) + 1).toNat < steps.length by omega)]
          have hres : stepEnd (stepMid ⟨G, ⟨kept, cells⟩, J, Z⟩ ⟨ask, res, steps, seals, (k : Int), busy, mount⟩) A.length = (setJob ⟨G, M2, J, Z⟩ A.length jobZ, res, 1) := by rw [hm2, hse]; simp [hmt]
          refine DW.skip ?_
          refine DW.seq ?_
          refine DW.reg (by simp [hlt1, app_get hA, app_get0 hA, app_set hA, app_set0 hA, hdA, Nat.add_assoc, hk1, hk2, hd, hg0, hkF, hk3, hmt, hTJ, hle, hA, hzl, hzT]; rfl) ?_
          refine DW.ghost (Ghost.wide 0 [6, A.length * 16 + 10] 1 (by simp [app_get hA, app_get0 hA, app_set hA, app_set0 hA, hdA, Nat.add_assoc]; rfl) (by simp [app_get hA, app_get0 hA, app_set hA, app_set0 hA, hdA, Nat.add_assoc])) ?_
          refine DW.ghost (Ghost.wide 0 [6, A.length * 16 + 11] 3 (by simp [app_get hA, app_get0 hA, app_set hA, app_set0 hA, hdA, Nat.add_assoc]; rfl) (by simp [app_get hA, app_get0 hA, app_set hA, app_set0 hA, hdA, Nat.add_assoc])) ?_
          refine DW.ghost (Ghost.wide 0 [6, A.length * 16 + 12] 3 (by simp [app_get hA, app_get0 hA, app_set hA, app_set0 hA, hdA, Nat.add_assoc]; rfl) (by simp [app_get hA, app_get0 hA, app_set hA, app_set0 hA, hdA, Nat.add_assoc])) ?_
          refine DW.norm [(4, _), (8, _)] [(0, _), (4, _), (8, _)] [(0, _)] (by simp [hlt1, app_get hA, app_get0 hA, app_set hA, app_set0 hA, hdA, Nat.add_assoc, hk1, hk2, hd, hg0, hkF, hk3, hmt]; exact ⟨rfl, rfl⟩) (by simp [hlt1, app_get hA, app_get0 hA, app_set hA, app_set0 hA, hdA, Nat.add_assoc, hk1, hk2, hd, hg0, hkF, hk3, hmt]; exact ⟨rfl, rfl, rfl⟩) (by simp [hlt1, app_get hA, app_get0 hA, app_set hA, app_set0 hA, hdA, Nat.add_assoc, hk1, hk2, hd, hg0, hkF, hk3, hmt]; rfl) (by rfl) ?_
          refine DW.seq ?_
          refine DW.reg (by simp [hlt1, app_get hA, app_get0 hA, app_set hA, app_set0 hA, hdA, Nat.add_assoc, hk1, hk2, hd, hg0, hkF, hk3, hmt]; rfl) ?_
          refine DW.ret ?_
          rw [hres]
          simp [Tryz.results109, setJob, hset, resZ, jobZ, rD_append, hTJ, hle, hA, hzl, hzT]
  · have hno : True := trivial
    have hk1 : ¬ (k : Int) < steps.length := by
      have : ¬ k < steps.length := by simpa using hc0
      omega
    have hm2 : stepMid ⟨G, ⟨kept, cells⟩, J, Z⟩ ⟨ask, res, steps, seals, (k : Int), busy, mount⟩ = (⟨G, ⟨kept, cells⟩, J, Z⟩, ⟨ask, res, steps, seals, (k : Int), busy, mount⟩) := by
      have : steps[k]? = none := List.getElem?_eq_none (by omega)
      simp [stepMid, this]
    refine DW.skip ?_
    refine DW.seq ?_
    refine DW.seq ?_
    refine DW.drawn mixed (by kernel_rfl) ?_
    refine RegD.addN 10 (by simp [hlt1, app_get hA, app_get0 hA, app_set hA, app_set0 hA, hdA, Nat.add_assoc, hk1, hno]; (first | (simp (disch := omega) only [wrapI]; done) | (simp (disch := omega) only [wrapI]; exact ⟨rfl, rfl⟩) | skip); (first | done | exact ⟨rfl, rfl⟩ | rfl)) ?_
    refine RegD.nil ⟨by kernel_rfl, ?_⟩
    refine DW.condF (by simp (maxSteps := 200000) (disch := first | omega | (simp; done) | fail) [wrapI, leT, leF, ltT, ltF, eqF, nleT, nleF, nltT, nltF, hlt1, app_get hA, app_get0 hA, app_set hA, app_set0 hA, hdA, Nat.add_assoc, hk1, hno]) ?_
    refine DW.skip ?_
    refine DW.seq ?_
    refine DW.reg (by simp [hlt1, app_get hA, app_get0 hA, app_set hA, app_set0 hA, hdA, Nat.add_assoc, hk1, hno, hTJ, hle, hA, hzl, hzT, hdA6]; rfl) ?_
    refine DW.norm [(4, _), (6, _), (8, _)] [(0, _), (4, _), (8, _)] [(0, _)] (by simp [hlt1, app_get hA, app_get0 hA, app_set hA, app_set0 hA, hdA, Nat.add_assoc, hk1, hno]; exact ⟨rfl, rfl, rfl⟩) (by simp [hlt1, app_get hA, app_get0 hA, app_set hA, app_set0 hA, hdA, Nat.add_assoc, hk1, hno]; exact ⟨rfl, rfl, rfl⟩) (by simp [hlt1, app_get hA, app_get0 hA, app_set hA, app_set0 hA, hdA, Nat.add_assoc, hk1, hno]; rfl) (by rfl) ?_
    refine DW.seq ?_
    refine DW.seq ?_
    refine DW.reg (by simp (maxSteps := 200000) (disch := first | omega | (simp; done) | fail) [wrapI, leT, leF, ltT, ltF, eqF, nleT, nleF, nltT, nltF, hlt1, app_get hA, app_get0 hA, app_set hA, app_set0 hA, hdA, Nat.add_assoc, hk1, hno]; rfl) ?_
    refine DW.condB (by simp (maxSteps := 200000) (disch := first | omega | (simp; done) | fail) [wrapI, leT, leF, ltT, ltF, eqF, nleT, nleF, nltT, nltF, hlt1, app_get hA, app_get0 hA, app_set hA, app_set0 hA, hdA, Nat.add_assoc, hk1, hno]; exact rfl) (fun hc7 => ?_) (fun hc7 => ?_)
    · have hmt : mount = true := by simpa using hc7
      have hse : stepEnd (⟨G, ⟨kept, cells⟩, J, Z⟩, ⟨ask, res, steps, seals, (k : Int), busy, mount⟩) A.length = (setJob ⟨G, ⟨kept, cells⟩, J, Z⟩ A.length jobZ, if mount = true then resZ else res, 1) := by unfold stepEnd; rw [if_neg (show ¬ ((k : Int)).toNat < steps.length by omega)]
      have hres : stepEnd (stepMid ⟨G, ⟨kept, cells⟩, J, Z⟩ ⟨ask, res, steps, seals, (k : Int), busy, mount⟩) A.length = (setJob ⟨G, ⟨kept, cells⟩, J, Z⟩ A.length jobZ, resZ, 1) := by rw [hm2, hse, if_pos hmt]
      refine DW.reg (by simp [hlt1, app_get hA, app_get0 hA, app_set hA, app_set0 hA, hdA, Nat.add_assoc, hk1, hno, hmt]; rfl) ?_
      refine DW.ghost (Ghost.wide 8 [4] 1 (by simp; rfl) (by simp)) ?_
      refine DW.norm [(4, _), (6, _), (8, _)] [(0, _), (4, _), (8, _)] [(0, _)] (by simp [hlt1, app_get hA, app_get0 hA, app_set hA, app_set0 hA, hdA, Nat.add_assoc, hk1, hno, hmt]; exact ⟨rfl, rfl, rfl⟩) (by simp [hlt1, app_get hA, app_get0 hA, app_set hA, app_set0 hA, hdA, Nat.add_assoc, hk1, hno, hmt]; exact ⟨rfl, rfl, rfl⟩) (by simp [hlt1, app_get hA, app_get0 hA, app_set hA, app_set0 hA, hdA, Nat.add_assoc, hk1, hno, hmt]; rfl) (by rfl) ?_
      refine DW.seq ?_
      refine DW.reg (by simp [hlt1, app_get hA, app_get0 hA, app_set hA, app_set0 hA, hdA, Nat.add_assoc, hk1, hno, hmt, hTJ, hle, hA, hzl, hzT]; rfl) ?_
      refine DW.ghost (Ghost.wide 0 [6, A.length * 16 + 10] 1 (by simp [app_get hA, app_get0 hA, app_set hA, app_set0 hA, hdA, Nat.add_assoc]; rfl) (by simp [app_get hA, app_get0 hA, app_set hA, app_set0 hA, hdA, Nat.add_assoc])) ?_
      refine DW.ghost (Ghost.wide 0 [6, A.length * 16 + 11] 3 (by simp [app_get hA, app_get0 hA, app_set hA, app_set0 hA, hdA, Nat.add_assoc]; rfl) (by simp [app_get hA, app_get0 hA, app_set hA, app_set0 hA, hdA, Nat.add_assoc])) ?_
      refine DW.ghost (Ghost.wide 0 [6, A.length * 16 + 12] 3 (by simp [app_get hA, app_get0 hA, app_set hA, app_set0 hA, hdA, Nat.add_assoc]; rfl) (by simp [app_get hA, app_get0 hA, app_set hA, app_set0 hA, hdA, Nat.add_assoc])) ?_
      refine DW.norm [(4, _), (8, _)] [(0, _), (4, _), (8, _)] [(0, _)] (by simp [hlt1, app_get hA, app_get0 hA, app_set hA, app_set0 hA, hdA, Nat.add_assoc, hk1, hno, hmt]; exact ⟨rfl, rfl⟩) (by simp [hlt1, app_get hA, app_get0 hA, app_set hA, app_set0 hA, hdA, Nat.add_assoc, hk1, hno, hmt]; exact ⟨rfl, rfl, rfl⟩) (by simp [hlt1, app_get hA, app_get0 hA, app_set hA, app_set0 hA, hdA, Nat.add_assoc, hk1, hno, hmt]; rfl) (by rfl) ?_
      refine DW.seq ?_
      refine DW.reg (by simp [hlt1, app_get hA, app_get0 hA, app_set hA, app_set0 hA, hdA, Nat.add_assoc, hk1, hno, hmt]; rfl) ?_
      refine DW.ret ?_
      rw [hres]
      simp [Tryz.results109, setJob, hset, resZ, jobZ, rD_append, hTJ, hle, hA, hzl, hzT]
    · have hmt : mount = false := by simpa using hc7
      have hse : stepEnd (⟨G, ⟨kept, cells⟩, J, Z⟩, ⟨ask, res, steps, seals, (k : Int), busy, mount⟩) A.length = (setJob ⟨G, ⟨kept, cells⟩, J, Z⟩ A.length jobZ, if mount = true then resZ else res, 1) := by unfold stepEnd; rw [if_neg (show ¬ ((k : Int)).toNat < steps.length by omega)]
      have hres : stepEnd (stepMid ⟨G, ⟨kept, cells⟩, J, Z⟩ ⟨ask, res, steps, seals, (k : Int), busy, mount⟩) A.length = (setJob ⟨G, ⟨kept, cells⟩, J, Z⟩ A.length jobZ, res, 1) := by rw [hm2, hse]; simp [hmt]
      refine DW.skip ?_
      refine DW.seq ?_
      refine DW.reg (by simp [hlt1, app_get hA, app_get0 hA, app_set hA, app_set0 hA, hdA, Nat.add_assoc, hk1, hno, hmt, hTJ, hle, hA, hzl, hzT]; rfl) ?_
      refine DW.ghost (Ghost.wide 0 [6, A.length * 16 + 10] 1 (by simp [app_get hA, app_get0 hA, app_set hA, app_set0 hA, hdA, Nat.add_assoc]; rfl) (by simp [app_get hA, app_get0 hA, app_set hA, app_set0 hA, hdA, Nat.add_assoc])) ?_
      refine DW.ghost (Ghost.wide 0 [6, A.length * 16 + 11] 3 (by simp [app_get hA, app_get0 hA, app_set hA, app_set0 hA, hdA, Nat.add_assoc]; rfl) (by simp [app_get hA, app_get0 hA, app_set hA, app_set0 hA, hdA, Nat.add_assoc])) ?_
      refine DW.ghost (Ghost.wide 0 [6, A.length * 16 + 12] 3 (by simp [app_get hA, app_get0 hA, app_set hA, app_set0 hA, hdA, Nat.add_assoc]; rfl) (by simp [app_get hA, app_get0 hA, app_set hA, app_set0 hA, hdA, Nat.add_assoc])) ?_
      refine DW.norm [(4, _), (8, _)] [(0, _), (4, _), (8, _)] [(0, _)] (by simp [hlt1, app_get hA, app_get0 hA, app_set hA, app_set0 hA, hdA, Nat.add_assoc, hk1, hno, hmt]; exact ⟨rfl, rfl⟩) (by simp [hlt1, app_get hA, app_get0 hA, app_set hA, app_set0 hA, hdA, Nat.add_assoc, hk1, hno, hmt]; exact ⟨rfl, rfl, rfl⟩) (by simp [hlt1, app_get hA, app_get0 hA, app_set hA, app_set0 hA, hdA, Nat.add_assoc, hk1, hno, hmt]; rfl) (by rfl) ?_
      refine DW.seq ?_
      refine DW.reg (by simp [hlt1, app_get hA, app_get0 hA, app_set hA, app_set0 hA, hdA, Nat.add_assoc, hk1, hno, hmt]; rfl) ?_
      refine DW.ret ?_
      rw [hres]
      simp [Tryz.results109, setJob, hset, resZ, jobZ, rD_append, hTJ, hle, hA, hzl, hzT]
end Go.Proofs.YtjjdjkkhhcbogaaGreat.DM
