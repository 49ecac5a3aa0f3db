import Derived.Test.YtjjdjkkhhcbogaaGreatFG20
namespace Go.Proofs.YtjjdjkkhhcbogaaGreat.DM
set_option linter.unusedVariables false
set_option linter.unusedSimpArgs false
set_option maxRecDepth 4000
set_option maxHeartbeats 8000000
theorem copySystem_spec (S : System) (hS : Row.sz S ≤ 2 ^ 36) : Spec Tryz.prog 107 [raSystem S] [some 8] (System.d S) [raSystem S] := by
  refine Spec.intro Tryz.func107 rfl rfl Tryz.ntmps107 rfl (by simp) ?_
  have hz := System_sz S
  have hzm := Memory_sz S.Memory
  have hcl := szL_len S.Memory.Cells
  have hjl := szL_len S.Jobs
  have hsl := szL_len S.Seals
  have hl : S.Memory.Cells.length < 2 ^ 40 := by omega
  refine DW.seq ?_
  refine DW.reg (by simp (maxSteps := 200000) (disch := first | omega | (simp; done) | fail) [wrapI, leT, leF, ltT, ltF, eqF, nleT, nleF, nltT, nltF]; rfl) ?_
  refine DW.seq ?_
  refine DW.drawn mixed (by kernel_rfl) ?_
  refine RegD.addN 4 (by simp; (first | (simp (disch := omega) only [wrapI]; done) | (simp (disch := omega) only [wrapI]; exact ⟨rfl, rfl⟩) | skip); (first | done | exact ⟨rfl, rfl⟩ | rfl)) ?_
  refine RegD.cert (Cert.callHA rfl (by simp) rfl (by decide) (by simp; exact ⟨rfl, rfl⟩) (by simp; rfl) (by exact copyMemory_spec S.Memory.Kept S.Memory.Cells hl) rfl (by simp) (by simp) (by simp; rfl) rfl) ?_
  refine RegD.addN 2 (by simp; (first | (simp (disch := omega) only [wrapI]; done) | (simp (disch := omega) only [wrapI]; exact ⟨rfl, rfl⟩) | skip); (first | done | exact ⟨rfl, rfl⟩ | rfl)) ?_
  refine RegD.cert (Cert.callHA rfl (by simp) rfl (by decide) (by simp; exact ⟨rfl, rfl⟩) (by simp; rfl) (by exact cloneSealing_spec S.Seals (by omega)) rfl (by simp) (by simp) (by simp; rfl) rfl) ?_
  refine RegD.addN 1 (by simp; (first | (simp (disch := omega) only [wrapI]; done) | (simp (disch := omega) only [wrapI]; exact ⟨rfl, rfl⟩) | skip); (first | done | exact ⟨rfl, rfl⟩ | rfl)) ?_
  refine RegD.cert (Cert.alloc rfl rfl rfl (by decide) (by simp; rfl) (by rfl) (by decide) (by simp)) ?_
  refine RegD.heavyF (by simp) (by simp; rfl) ?_
  refine RegD.nil ⟨by kernel_rfl, ?_⟩
  refine DW.ghost (Ghost.wide 3 [6] 16 (by simp; rfl) (by simp)) ?_
  refine DW.norm [(1, _), (2, _), (3, _)] [(1, _), (2, _), (3, _)] [] (by simp; exact ⟨rfl, rfl, rfl⟩) (by simp; exact ⟨rfl, rfl, rfl⟩) (by simp) (by rfl) ?_
  refine DW.seq ?_
  refine DW.seq ?_
  refine DW.reg (by simp (maxSteps := 200000) (disch := first | omega | (simp; done) | fail) [wrapI, leT, leF, ltT, ltF, eqF, nleT, nleF, nltT, nltF]; rfl) ?_
  refine DW.block ?_
  refine DW.loopS (α := Nat) (fun i => i ≤ S.Jobs.length) (fun i => S.Jobs.length - i) (fun i => [(18, vi i)]) (fun i => [(3, .ow () 8 1 [.sc (.int .i64 S.Geo.Tenants), .sc (.int .i64 S.Geo.Pages), .sc (.int .i64 S.Geo.Inodes), .sc (.int .i64 S.Geo.Quota), .sc (.string S.Memory.Kept), .ow () 3 S.Memory.Cells.length (rD S.Memory.Cells), .ow () 16 i (rD (S.Jobs.take i)), .ow () 3 S.Seals.length (rD S.Seals)])]) [(2, _), (3, _), (16, _), (17, _)] [(1, _), (2, _)] [] 0 (by simp) (by simp; exact ⟨rfl, rfl, rfl, rfl⟩) (by simp; exact ⟨rfl, rfl⟩) (by simp) (by rfl) ?_
  intro i hi
  refine DW.seq ?_
  refine DW.reg (by simp (maxSteps := 200000) (disch := first | omega | (simp; done) | fail) [wrapI, leT, leF, ltT, ltF, eqF, nleT, nleF, nltT, nltF]; rfl) ?_
  refine DW.seq ?_
  refine DW.condB (by simp (maxSteps := 200000) (disch := first | omega | (simp; done) | fail) [wrapI, leT, leF, ltT, ltF, eqF, nleT, nleF, nltT, nltF]; exact rfl) (fun hc0 => ?_) (fun hc0 => ?_)
  · have hlt : i < S.Jobs.length := by simpa using hc0
    have hlt1 : (i : Int) < S.Jobs.length := by omega
    have hd := rR_drop_Job S.Jobs i hlt
    have hsa := szL_at S.Jobs i hlt
    have hR : rD (S.Jobs.take (i + 1)) = rD (S.Jobs.take i) ++ Job.d S.Jobs[i] := by
      rw [List.take_succ_eq_append_getElem hlt, rD_append]; congr 1
    have hKl : (S.Jobs.take i).length = i := by rw [List.length_take, Nat.min_eq_left (by omega)]
    have hT := rD_take_Job (S.Jobs.take i)
    have hTl := rD_len_Job (S.Jobs.take i)
    rw [hKl] at hT hTl
    generalize S.Jobs[i] = c at hd hsa hR
    generalize hK2 : rD (S.Jobs.take (i + 1)) = K2 at hR
    generalize S.Jobs.take i = K at hR hKl hT hTl
    have d1 : (i + 1) * 200 ≤ 140737488355328 := by omega
    have d2 : i + 1 ≤ 140737488355328 := by omega
    have d3 : i ≤ 140737488355327 := by omega
    have d4 : (i + 1) * 16 ≤ i * 16 + 16 := by omega
    have hTR : ∀ x : List D, x.length = 16 → List.take ((i + 1) * 16) (rD K ++ x) = rD K ++ x := fun x hx => List.take_of_length_le (by rw [List.length_append, hTl, hx]; omega)
    refine DW.skip ?_
    refine DW.seq ?_
    refine DW.block ?_
    refine DW.seq ?_
    refine DW.reg (by simp [hlt1, hd]; rfl) ?_
    refine DW.norm [(2, _), (3, _), (5, _), (16, _), (17, _), (18, _)] [(1, _), (2, _), (3, _), (5, _)] [] (by simp [hlt1, hd]; exact ⟨rfl, rfl, rfl, rfl, rfl, rfl⟩) (by simp [hlt1, hd]; exact ⟨rfl, rfl, rfl, rfl⟩) (by simp [hlt1, hd]) (by rfl) ?_
    refine DW.drawnK (fun j => if j = 4 then [0, 1] else []) (fun _ => [22, 23]) (fun _ => fun v => pzV 25 [12] (pzV 25 [11] (pzV 25 [10] v))) mixed (by kernel_rfl) ?_
    refine RegK.add (by simp [hlt1, hd, d1, d2, d3, d4, hT, hTl, hTR]; rfl) (by simp) ?_
    refine RegK.add (by simp [hlt1, hd, d1, d2, d3, d4, hT, hTl, hTR]; rfl) (by simp) ?_
    refine RegK.cert (cert_of_addF (by simp [hlt1, hd, d1, d2, d3, d4, hT, hTl, hTR]; rfl)) (by intro j; by_cases h : j = 4 <;> simp [h]) ?_
    refine RegK.cert (Cert.callHA rfl (by simp) rfl (by decide) (by simp [hlt1, hd, d1, d2, d3, d4, hT, hTl, hTR]; exact ⟨rfl, rfl⟩) (by simp [hlt1, hd, d1, d2, d3, d4, hT, hTl, hTR]; rfl) (by exact copyJob_spec c (by omega)) rfl (by simp) (by simp) (by simp; rfl) rfl) (by intro j; by_cases h : j = 4 <;> simp [h]) ?_
    refine RegK.swap [25] rfl (fun e' he => by
      have h25 := he 25 (by simp)
      simp at h25
      simp [h25]; exact ⟨rfl, rfl, rfl⟩) (by simp) (by simp) (by simp) (by
      intro k hk d L R hp
      simp at hk
      rcases hk with rfl | rfl
      · simp at hp; obtain ⟨rfl, rfl, rfl⟩ := hp; simp
      · simp at hp; obtain ⟨rfl, rfl, rfl⟩ := hp; simp) ?_
    refine RegK.heavyF (by simp) (by simp [hlt1, hd, d1, d2, d3, d4, hT, hTl, hTR]; rfl) (by simp) ?_
    refine RegK.cert (cert_of_addF (by simp [hlt1, hd, d1, d2, d3, d4, hT, hTl, hTR]; rfl)) (by intro j; by_cases h : j = 4 <;> simp [h]) ?_
    refine RegK.heavyF (by simp) (by simp [hlt1, hd, d1, d2, d3, d4, hT, hTl, hTR]; rfl) (by simp) ?_
    refine ⟨by kernel_rfl, ?_⟩
    refine DW.norm [(2, _), (3, _), (16, _), (17, _), (18, _)] [(1, _), (2, _), (3, _)] [] (by simp [hlt1, hd]; exact ⟨rfl, rfl, rfl, rfl, rfl⟩) (by simp [hlt1, hd]; exact ⟨rfl, rfl, rfl⟩) (by simp [hlt1, hd]) (by rfl) ?_
    refine DW.reg (by simp (maxSteps := 200000) (disch := first | omega | (simp; done) | fail) [wrapI, leT, leF, ltT, ltF, eqF, nleT, nleF, nltT, nltF, hlt1, hd]; rfl) ?_
    exact ⟨i + 1, hlt, by omega, by simp, by simp [hK2, hR], by simp, by rfl⟩
  · have hil : i = S.Jobs.length := by
      have : ¬ i < S.Jobs.length := by simpa using hc0
      omega
    subst hil
    rw [List.take_length]
    have hT := rD_take_Job S.Jobs
    have hTl := rD_len_Job S.Jobs
    refine DW.exit ?_
    refine DW.seq ?_
    refine DW.reg (by simp [hT, hTl]; rfl) ?_
    refine DW.ret ?_
    simp [Tryz.results107, hT, hTl]
end Go.Proofs.YtjjdjkkhhcbogaaGreat.DM
