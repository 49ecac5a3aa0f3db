import Derived.Test.YtciieaidbiejmaaFQ4
namespace Go.Proofs.Ytciieaidbiejmaa.DM
set_option linter.unusedVariables false
set_option linter.unusedSimpArgs false
set_option maxRecDepth 4000
set_option maxHeartbeats 8000000
theorem drawAsked_ex (code : List UInt8) (hc : code.length < 2 ^ 62) : ∃ dz az, (∃ (g : Geo) (l : List Item) (a : Ask), dz = Geo.d g ++ (dV l ++ Ask.d a) ∧ az = [ra code] ∧ geoG g ∧ l.length ≤ 12 ∧ Fits g l ∧ Short 720 l ∧ askG a) ∧ Spec Try.prog 5 [ra code] [some 4, some 1, some 6] dz az := by
  refine Spec.introX Try.func5 rfl rfl Try.ntmps5 rfl (by simp) ?_
  obtain ⟨dz1, az1, ⟨g, c1, rfl, rfl, kc1, hg⟩, hG⟩ := l11Geo_ex (newC code) (newC_ok hc)
  have hz : Fits g [] := by
    obtain ⟨q1, q2, q3, q4, q5, q6, q7, q8⟩ := id hg
    refine ⟨?_, ?_⟩ <;> simp [pagesIn] <;> omega
  obtain ⟨dz2, az2, ⟨l, c2, rfl, rfl, kc2, hl, hf, hsh⟩, hV⟩ := l16View_ex c1 kc1 g hz
  obtain ⟨dz3, az3, ⟨a, c3, rfl, rfl, kc3, ga⟩, hA⟩ := l17Any_ex c2 kc2
  have hT0 := rD_take_Item l
  have hL0 := rD_len_Item l
  refine DX.seq ?_
  refine DX.reg (by simp (maxSteps := 200000) (disch := first | omega | (simp; done) | fail) [wrapI, leT, leF, ltT, ltF, eqF, nleT, nleF, nltT, nltF, mapV, pzR, inR]; rfl) ?_
  refine DX.seq ?_
  refine DX.regs ?_
  refine RegOX.opN 1 (by simp (maxSteps := 200000) (disch := first | omega | (simp; done) | fail) [wrapI, leT, leF, ltT, ltF, eqF, nleT, nleF, nltT, nltF, mapV, pzR, inR]; rfl) ?_
  refine RegOX.step rfl (OpStep.callB (az := [ra code]) rfl rfl (by decide) (by simp) (by simp [callArgs]; rfl) (l01New_spec code hc) (by simp [rosOk, roA_, toRC, mapO]) (by simp [widen, ownV, ownC])) ?_
  refine RegOX.opN 1 (by simp (maxSteps := 200000) (disch := first | omega | (simp; done) | fail) [wrapI, leT, leF, ltT, ltF, eqF, nleT, nleF, nltT, nltF, mapV, pzR, inR]; rfl) ?_
  refine RegOX.nil ?_
  refine DX.norm [(2, _), (3, _), (4, _), (5, _)] [(2, _), (3, _), (4, _), (9, _)] [] (by simp [mapV, pzR, inR]; exact ⟨rfl, rfl, rfl, rfl⟩) (by simp [mapV, pzR, inR]; exact ⟨rfl, rfl, rfl, rfl⟩) (by simp [mapV, pzR, inR]) (by rfl) ?_
  refine DX.seq ?_
  refine DX.regs ?_
  refine RegOX.opN 1 (by simp [mapV, pzR, inR]; rfl) ?_
  refine RegOX.step rfl (OpStep.callP (io := 0) (id := 9) (off := 0) (p := []) (sz := 3) (n := 1) (cs0 := curD (newC code)) rfl (by simp [callArgs]; rfl) hG (by simp) rfl rfl (by simp) rfl (by simp) (by simp) (by simp) (by simp [callArgs, FS.lend]; rfl) (by simp [rosOk, roA_, toRC, mapO]) (by simp [widen, ownV, ownC]) (by simp [finish, packDV, packD, ptBack]; rfl)) ?_
  refine RegOX.opN 2 (by simp [mapV, pzR, inR]; rfl) ?_
  refine RegOX.nil ?_
  refine DX.norm [(2, _), (3, _), (4, _), (5, _), (6, _)] [(2, _), (3, _), (4, _), (6, _), (9, _)] [] (by simp [mapV, pzR, inR]; exact ⟨rfl, rfl, rfl, rfl, rfl⟩) (by simp [mapV, pzR, inR]; exact ⟨rfl, rfl, rfl, rfl, rfl⟩) (by simp [mapV, pzR, inR]) (by rfl) ?_
  refine DX.seq ?_
  refine DX.regs ?_
  refine RegOX.opN 2 (by simp [mapV, pzR, inR, hT0, hL0]; rfl) ?_
  refine RegOX.step rfl (OpStep.callP (io := 0) (id := 9) (off := 0) (p := []) (sz := 3) (n := 1) (cs0 := curD c1) rfl (by simp [callArgs]; rfl) hV (by simp) rfl rfl (by simp) rfl (by simp) (by simp) (by simp) (by simp [callArgs, FS.lend]; rfl) (by simp [rosOk, roA_, toRC, mapO]) (by simp [widen, ownV, ownC]) (by simp [finish, packDV, packD, ptBack]; rfl)) ?_
  refine RegOX.opN 2 (by simp [mapV, pzR, inR, hT0, hL0]; rfl) ?_
  refine RegOX.nil ?_
  refine DX.norm [(2, _), (3, _), (4, _), (5, _), (6, _), (7, _)] [(2, _), (3, _), (4, _), (6, _), (7, _), (9, _)] [] (by simp [mapV, pzR, inR, hT0, hL0]; exact ⟨rfl, rfl, rfl, rfl, rfl, rfl⟩) (by simp [mapV, pzR, inR, hT0, hL0]; exact ⟨rfl, rfl, rfl, rfl, rfl, rfl⟩) (by simp [mapV, pzR, inR, hT0, hL0]) (by rfl) ?_
  refine DX.seq ?_
  apply DX.drawnK (fun j => if j = 3 then [0, 1] else if j = 4 then [1] else []) (fun j => if j = 3 then [15, 16] else [16]) (fun j => if j = 3 then mapV (pzR 9 [] 0 3) else fun v => v) mixed (by kernel_rfl)
  · refine RegK.add (by simp [mapV, pzR, inR, hT0, hL0]; rfl) (by intro j hj; by_cases h : j = 3 <;> by_cases h8 : j = 4 <;> simp [h, h8, mapV, pzR, inR] at hj ⊢) ?_
    refine RegK.add (by simp [mapV, pzR, inR, hT0, hL0]; rfl) (by intro j hj; by_cases h : j = 3 <;> by_cases h8 : j = 4 <;> simp [h, h8, mapV, pzR, inR] at hj ⊢) ?_
    refine RegK.cert (Cert.mv rfl rfl rfl (by decide)) (by intro j; by_cases h : j = 3 <;> by_cases h8 : j = 4 <;> simp [h, h8]) ?_
    refine RegK.ptr (id := 9) (cs := curD c2) hA rfl rfl rfl (fun e' he => by have h17 := he 17 (by simp); simp at h17; simp [callArgs, h17]; rfl) (fun e' he => by have h17 := he 17 (by simp); simp at h17; simp [callArgs, FS.lend, h17]; rfl) (by intro s'; simp [rosOk, roA_, toRC, mapO]) (by simp [widen, ownV, ownC]) (by simp) rfl (by simp) (by simp) (fun e' => by simp [finish, packDV, packD, ptBack]; rfl) rfl (by simp [mapV, pzR, inR]) (by simp) (by
      intro k hk d L R hp
      simp at hk
      rcases hk with rfl | rfl
      all_goals (simp at hp; obtain ⟨rfl, rfl, rfl⟩ := hp; simp [mapV, pzR, inR])
    ) ?_
    refine RegK.swapS [2, 15] rfl (fun e' he => by
      have h2 := he 2 (by simp)
      have h15 := he 15 (by simp)
      simp [mapV, pzR, inR, hT0, hL0] at h2 h15
      simp [h2, h15, hT0, hL0]; exact ⟨rfl, rfl⟩) (by simp) (by simp) (by simp) (by
      intro k hk d L R hp
      simp at hk
      subst hk
      all_goals (simp at hp; obtain ⟨rfl, rfl, rfl⟩ := hp; simp)
    ) ?_
    refine RegK.heavyF (by simp) (by simp [mapV, pzR, inR, hT0, hL0]; rfl) (by simp) ?_
    refine RegK.heavyF (by simp) (by simp [mapV, pzR, inR, hT0, hL0]; rfl) (by simp) ?_
    exact ⟨by kernel_rfl, rfl, rfl⟩
  refine DX.ret ?_
  refine ⟨_, _, ⟨g, l, a, rfl, rfl, hg, hl, hf, hsh, ga⟩, ?_⟩
  simp [Try.results5, mapV, pzR, inR, hT0, hL0]
end Go.Proofs.Ytciieaidbiejmaa.DM
