import Derived.Test.YtjjdjkkhhcbogaaFW11
namespace Go.Proofs.Ytjjdjkkhhcbogaa.DM
set_option linter.unusedVariables false
set_option linter.unusedSimpArgs false
set_option maxRecDepth 4000
set_option maxHeartbeats 8000000
theorem implStoreWord_spec (k : ByteArray) (l : List Cell) (x : Int) (w : ByteArray) (hk : k.size < 2 ^ 40) (hl : l.length < 2 ^ 40) : Spec Try.prog 26 [raMemory ⟨k, l⟩, ri x, rs w] [some 2] (dM (storeM ⟨k, l⟩ x w)) [raMemory ⟨k, l⟩, ri x, rs w] := by
  refine Spec.intro Try.func26 rfl rfl Try.ntmps26 rfl (by simp) ?_
  refine DW.seq ?_
  refine DW.reg (by simp (maxSteps := 200000) (disch := first | omega | (simp; done) | fail) [wrapI, leT, leF, ltT, ltF, eqF, nleT, nleF, nltT, nltF, mapV, pzR, inR, rD_len_Cell]; rfl) ?_
  refine DW.seq ?_
  refine DW.regs ?_
  refine RegO.opN 1 (by simp [mapV, pzR, inR, rD_len_Cell]; rfl) ?_
  refine RegO.step rfl (OpStep.callA rfl (by simp [mapV, pzR, inR, rD_len_Cell]; exact ⟨rfl, rfl⟩) (by simp [mapV, pzR, inR, rD_len_Cell]; rfl) (by exact copyMemory_spec _ _ hl) (by simp) (by simp [mapV, pzR, inR, rD_len_Cell]; rfl)) ?_
  refine RegO.opN 2 (by simp [mapV, pzR, inR, rD_len_Cell]; rfl) ?_
  refine RegO.nil ?_
  refine DW.norm [(1, _), (2, _), (3, _), (6, _), (7, _)] [(3, _), (6, _), (7, _)] [] (by simp [mapV, pzR, inR, rD_len_Cell]; exact ⟨rfl, rfl, rfl, rfl, rfl⟩) (by simp [mapV, pzR, inR, rD_len_Cell]; exact ⟨rfl, rfl, rfl⟩) (by simp [mapV, pzR, inR, rD_len_Cell]) (by rfl) ?_
  refine DW.seq ?_
  refine DW.seq ?_
  have hsp : ((inM ⟨k, l⟩ x) = false) ∨ ((inM ⟨k, l⟩ x) = true) := by
    cases (inM ⟨k, l⟩ x) <;> simp
  rcases hsp with g0 | g0
  · skip
    have hres : storeM ⟨k, l⟩ x w = ⟨k, l⟩ := by
      unfold storeM
      cases hm : memOk k l
      · simp
      · have hi : inB x 0 ((k.size : Int) / 8 - 1) = false := by simpa [inM, hm] using g0
        simp [hi]
    rw [hres]
    refine DW.regs ?_
    refine RegO.opN 2 (by simp (maxSteps := 200000) (disch := first | omega | (simp; done) | fail) [wrapI, leT, leF, ltT, ltF, eqF, nleT, nleF, nltT, nltF, mapV, pzR, inR, rD_len_Cell, g0]; rfl) ?_
    refine RegO.step rfl (OpStep.callA rfl (by simp (maxSteps := 200000) (disch := first | omega | (simp; done) | fail) [wrapI, leT, leF, ltT, ltF, eqF, nleT, nleF, nltT, nltF, mapV, pzR, inR, rD_len_Cell, g0]; exact ⟨rfl, rfl⟩) (by simp (maxSteps := 200000) (disch := first | omega | (simp; done) | fail) [wrapI, leT, leF, ltT, ltF, eqF, nleT, nleF, nltT, nltF, mapV, pzR, inR, rD_len_Cell, g0]; rfl) (by exact isWordOf_spec ⟨k, l⟩ x hk hl) (by simp) (by simp (maxSteps := 200000) (disch := first | omega | (simp; done) | fail) [wrapI, leT, leF, ltT, ltF, eqF, nleT, nleF, nltT, nltF, mapV, pzR, inR, rD_len_Cell, g0]; rfl)) ?_
    refine RegO.opN 5 (by simp (maxSteps := 200000) (disch := first | omega | (simp; done) | fail) [wrapI, leT, leF, ltT, ltF, eqF, nleT, nleF, nltT, nltF, mapV, pzR, inR, rD_len_Cell, g0]; rfl) ?_
    refine RegO.nil ?_
    refine DW.condF (by simp (maxSteps := 200000) (disch := first | omega | (simp; done) | fail) [wrapI, leT, leF, ltT, ltF, eqF, nleT, nleF, nltT, nltF, mapV, pzR, inR, rD_len_Cell, g0]) ?_
    refine DW.skip ?_
    refine DW.seq ?_
    refine DW.reg (by simp [mapV, pzR, inR, rD_len_Cell, g0]; rfl) ?_
    refine DW.ret ?_
    simp [Try.results26, mapV, pzR, inR, rD_len_Cell]
  · skip
    obtain ⟨hok, n, hxn, hn⟩ := inM_nat g0
    refine DW.regs ?_
    refine RegO.opN 2 (by simp (maxSteps := 200000) (disch := first | omega | (simp; done) | fail) [wrapI, leT, leF, ltT, ltF, eqF, nleT, nleF, nltT, nltF, mapV, pzR, inR, rD_len_Cell, g0]; rfl) ?_
    refine RegO.step rfl (OpStep.callA rfl (by simp (maxSteps := 200000) (disch := first | omega | (simp; done) | fail) [wrapI, leT, leF, ltT, ltF, eqF, nleT, nleF, nltT, nltF, mapV, pzR, inR, rD_len_Cell, g0]; exact ⟨rfl, rfl⟩) (by simp (maxSteps := 200000) (disch := first | omega | (simp; done) | fail) [wrapI, leT, leF, ltT, ltF, eqF, nleT, nleF, nltT, nltF, mapV, pzR, inR, rD_len_Cell, g0]; rfl) (by exact isWordOf_spec ⟨k, l⟩ x hk hl) (by simp) (by simp (maxSteps := 200000) (disch := first | omega | (simp; done) | fail) [wrapI, leT, leF, ltT, ltF, eqF, nleT, nleF, nltT, nltF, mapV, pzR, inR, rD_len_Cell, g0]; rfl)) ?_
    refine RegO.opN 5 (by simp (maxSteps := 200000) (disch := first | omega | (simp; done) | fail) [wrapI, leT, leF, ltT, ltF, eqF, nleT, nleF, nltT, nltF, mapV, pzR, inR, rD_len_Cell, g0]; rfl) ?_
    refine RegO.nil ?_
    refine DW.condB (by simp (maxSteps := 200000) (disch := first | omega | (simp; done) | fail) [wrapI, leT, leF, ltT, ltF, eqF, nleT, nleF, nltT, nltF, mapV, pzR, inR, rD_len_Cell, g0]; exact rfl) (fun hc0 => ?_) (fun hc0 => ?_)
    · have hw : w.size = 8 := by
        have : (w.size : Int) = 8 := by simpa using hc0
        omega
      have hi : inB x 0 ((k.size : Int) / 8 - 1) = true := by
        simp only [inM, Bool.and_eq_true] at g0
        exact g0.2
      have hres : storeM ⟨k, l⟩ x w = ⟨k, layC l (putAtI k l n w)⟩ := by rw [storeM_eq hok, if_pos hw, if_pos hi, hxn]; rfl
      rw [hres]
      refine DW.regs ?_
      refine RegO.opN 2 (by simp (maxSteps := 200000) (disch := first | omega | (simp; done) | fail) [wrapI, leT, leF, ltT, ltF, eqF, nleT, nleF, nltT, nltF, mapV, pzR, inR, rD_len_Cell, g0, hxn]; rfl) ?_
      refine RegO.step rfl (OpStep.callP (io := 0) (id := 7) (off := 0) (p := []) (sz := 2) (n := 1) (cs0 := dMem k l) rfl (by simp [callArgs, hxn]; rfl) (store_spec k l n w hok hw hn hk hl) (by simp) rfl rfl (by simp) rfl (by simp) (by simp) (by simp) (by simp [callArgs, FS.lend, hxn]; rfl) (by simp [rosOk, roA_, toRC, mapO, hxn]) (by simp [widen, ownV, ownC]) (by simp [finish, packDV, packD, ptBack]; rfl)) ?_
      refine RegO.nil ?_
      refine DW.norm [(6, _), (7, _)] [(3, _), (6, _), (7, _)] [] (by simp [mapV, pzR, inR, rD_len_Cell, g0, hxn]; exact ⟨rfl, rfl⟩) (by simp [mapV, pzR, inR, rD_len_Cell, g0, hxn]; exact ⟨rfl, rfl, rfl⟩) (by simp [mapV, pzR, inR, rD_len_Cell, g0, hxn]) (by rfl) ?_
      refine DW.seq ?_
      refine DW.reg (by simp [mapV, pzR, inR, rD_len_Cell, g0, hxn]; rfl) ?_
      refine DW.ret ?_
      simp [Try.results26, mapV, pzR, inR, rD_len_Cell]
    · have hw : ¬ w.size = 8 := by
        have : ¬ (w.size : Int) = 8 := by simpa using hc0
        omega
      have hres : storeM ⟨k, l⟩ x w = ⟨k, l⟩ := by rw [storeM_eq hok, if_neg hw]
      rw [hres]
      refine DW.skip ?_
      refine DW.seq ?_
      refine DW.reg (by simp [mapV, pzR, inR, rD_len_Cell, g0]; rfl) ?_
      refine DW.ret ?_
      simp [Try.results26, mapV, pzR, inR, rD_len_Cell]
theorem implFlush_spec (k : ByteArray) (l : List Cell) (x : Int) (hk : k.size < 2 ^ 40) (hl : l.length < 2 ^ 40) : Spec Try.prog 32 [raMemory ⟨k, l⟩, ri x] [some 2] (dM (flushM ⟨k, l⟩ x)) [raMemory ⟨k, l⟩, ri x] := by
  refine Spec.intro Try.func32 rfl rfl Try.ntmps32 rfl (by simp) ?_
  refine DW.seq ?_
  refine DW.reg (by simp (maxSteps := 200000) (disch := first | omega | (simp; done) | fail) [wrapI, leT, leF, ltT, ltF, eqF, nleT, nleF, nltT, nltF, mapV, pzR, inR, rD_len_Cell]; rfl) ?_
  refine DW.seq ?_
  refine DW.regs ?_
  refine RegO.opN 1 (by simp [mapV, pzR, inR, rD_len_Cell]; rfl) ?_
  refine RegO.step rfl (OpStep.callA rfl (by simp [mapV, pzR, inR, rD_len_Cell]; exact ⟨rfl, rfl⟩) (by simp [mapV, pzR, inR, rD_len_Cell]; rfl) (by exact copyMemory_spec _ _ hl) (by simp) (by simp [mapV, pzR, inR, rD_len_Cell]; rfl)) ?_
  refine RegO.opN 2 (by simp [mapV, pzR, inR, rD_len_Cell]; rfl) ?_
  refine RegO.nil ?_
  refine DW.norm [(1, _), (2, _), (4, _), (5, _)] [(2, _), (4, _), (5, _)] [] (by simp [mapV, pzR, inR, rD_len_Cell]; exact ⟨rfl, rfl, rfl, rfl⟩) (by simp [mapV, pzR, inR, rD_len_Cell]; exact ⟨rfl, rfl, rfl⟩) (by simp [mapV, pzR, inR, rD_len_Cell]) (by rfl) ?_
  refine DW.seq ?_
  refine DW.seq ?_
  refine DW.regs ?_
  refine RegO.opN 1 (by simp (maxSteps := 200000) (disch := first | omega | (simp; done) | fail) [wrapI, leT, leF, ltT, ltF, eqF, nleT, nleF, nltT, nltF, mapV, pzR, inR, rD_len_Cell]; rfl) ?_
  refine RegO.step rfl (OpStep.callA rfl (by simp (maxSteps := 200000) (disch := first | omega | (simp; done) | fail) [wrapI, leT, leF, ltT, ltF, eqF, nleT, nleF, nltT, nltF, mapV, pzR, inR, rD_len_Cell]; exact ⟨rfl, rfl⟩) (by simp (maxSteps := 200000) (disch := first | omega | (simp; done) | fail) [wrapI, leT, leF, ltT, ltF, eqF, nleT, nleF, nltT, nltF, mapV, pzR, inR, rD_len_Cell]; rfl) (by exact memOk_spec k l hk hl) (by simp) (by simp (maxSteps := 200000) (disch := first | omega | (simp; done) | fail) [wrapI, leT, leF, ltT, ltF, eqF, nleT, nleF, nltT, nltF, mapV, pzR, inR, rD_len_Cell]; rfl)) ?_
  refine RegO.nil ?_
  refine DW.condB (by simp (maxSteps := 200000) (disch := first | omega | (simp; done) | fail) [wrapI, leT, leF, ltT, ltF, eqF, nleT, nleF, nltT, nltF, mapV, pzR, inR, rD_len_Cell]; exact rfl) (fun hc0 => ?_) (fun hc0 => ?_)
  · have hok : memOk k l = true := by simpa using hc0
    have hres : flushM ⟨k, l⟩ x = ⟨k, flushL l x⟩ := flushM_eq hok x
    rw [hres]
    refine DW.regs ?_
    refine RegO.opN 1 (by simp (maxSteps := 200000) (disch := first | omega | (simp; done) | fail) [wrapI, leT, leF, ltT, ltF, eqF, nleT, nleF, nltT, nltF, mapV, pzR, inR, rD_len_Cell]; rfl) ?_
    refine RegO.step rfl (OpStep.callP (io := 0) (id := 5) (off := 0) (p := []) (sz := 2) (n := 1) (cs0 := dMem k l) rfl (by simp [callArgs]; rfl) (flush_spec k l x hl) (by simp) rfl rfl (by simp) rfl (by simp) (by simp) (by simp) (by simp [callArgs, FS.lend]; rfl) (by simp [rosOk, roA_, toRC, mapO]) (by simp [widen, ownV, ownC]) (by simp [finish, packDV, packD, ptBack]; rfl)) ?_
    refine RegO.nil ?_
    refine DW.norm [(4, _), (5, _)] [(2, _), (4, _), (5, _)] [] (by simp [mapV, pzR, inR, rD_len_Cell]; exact ⟨rfl, rfl⟩) (by simp [mapV, pzR, inR, rD_len_Cell]; exact ⟨rfl, rfl, rfl⟩) (by simp [mapV, pzR, inR, rD_len_Cell]) (by rfl) ?_
    refine DW.seq ?_
    refine DW.reg (by simp [mapV, pzR, inR, rD_len_Cell]; rfl) ?_
    refine DW.ret ?_
    simp [Try.results32, mapV, pzR, inR, rD_len_Cell]
  · have hok : memOk k l = false := by simpa using hc0
    have hres : flushM ⟨k, l⟩ x = ⟨k, l⟩ := by unfold flushM; split <;> simp [hok]
    rw [hres]
    refine DW.skip ?_
    refine DW.seq ?_
    refine DW.reg (by simp [mapV, pzR, inR, rD_len_Cell]; rfl) ?_
    refine DW.ret ?_
    simp [Try.results32, mapV, pzR, inR, rD_len_Cell]
theorem implFence_spec (k : ByteArray) (l : List Cell) (hk : k.size < 2 ^ 40) (hl : l.length < 2 ^ 40) : Spec Try.prog 31 [raMemory ⟨k, l⟩] [some 2] (dM (fenceM ⟨k, l⟩)) [raMemory ⟨k, l⟩] := by
  refine Spec.intro Try.func31 rfl rfl Try.ntmps31 rfl (by simp) ?_
  refine DW.seq ?_
  refine DW.reg (by simp (maxSteps := 200000) (disch := first | omega | (simp; done) | fail) [wrapI, leT, leF, ltT, ltF, eqF, nleT, nleF, nltT, nltF, mapV, pzR, inR, rD_len_Cell]; rfl) ?_
  refine DW.seq ?_
  refine DW.regs ?_
  refine RegO.opN 1 (by simp [mapV, pzR, inR, rD_len_Cell]; rfl) ?_
  refine RegO.step rfl (OpStep.callA rfl (by simp [mapV, pzR, inR, rD_len_Cell]; exact ⟨rfl, rfl⟩) (by simp [mapV, pzR, inR, rD_len_Cell]; rfl) (by exact copyMemory_spec _ _ hl) (by simp) (by simp [mapV, pzR, inR, rD_len_Cell]; rfl)) ?_
  refine RegO.opN 2 (by simp [mapV, pzR, inR, rD_len_Cell]; rfl) ?_
  refine RegO.nil ?_
  refine DW.norm [(1, _), (2, _), (3, _)] [(1, _), (2, _), (3, _)] [] (by simp [mapV, pzR, inR, rD_len_Cell]; exact ⟨rfl, rfl, rfl⟩) (by simp [mapV, pzR, inR, rD_len_Cell]; exact ⟨rfl, rfl, rfl⟩) (by simp [mapV, pzR, inR, rD_len_Cell]) (by rfl) ?_
  refine DW.seq ?_
  refine DW.seq ?_
  refine DW.regs ?_
  refine RegO.opN 1 (by simp (maxSteps := 200000) (disch := first | omega | (simp; done) | fail) [wrapI, leT, leF, ltT, ltF, eqF, nleT, nleF, nltT, nltF, mapV, pzR, inR, rD_len_Cell]; rfl) ?_
  refine RegO.step rfl (OpStep.callA rfl (by simp (maxSteps := 200000) (disch := first | omega | (simp; done) | fail) [wrapI, leT, leF, ltT, ltF, eqF, nleT, nleF, nltT, nltF, mapV, pzR, inR, rD_len_Cell]; exact ⟨rfl, rfl⟩) (by simp (maxSteps := 200000) (disch := first | omega | (simp; done) | fail) [wrapI, leT, leF, ltT, ltF, eqF, nleT, nleF, nltT, nltF, mapV, pzR, inR, rD_len_Cell]; rfl) (by exact memOk_spec k l hk hl) (by simp) (by simp (maxSteps := 200000) (disch := first | omega | (simp; done) | fail) [wrapI, leT, leF, ltT, ltF, eqF, nleT, nleF, nltT, nltF, mapV, pzR, inR, rD_len_Cell]; rfl)) ?_
  refine RegO.nil ?_
  refine DW.condB (by simp (maxSteps := 200000) (disch := first | omega | (simp; done) | fail) [wrapI, leT, leF, ltT, ltF, eqF, nleT, nleF, nltT, nltF, mapV, pzR, inR, rD_len_Cell]; exact rfl) (fun hc0 => ?_) (fun hc0 => ?_)
  · have hok : memOk k l = true := by simpa using hc0
    have hres : fenceM ⟨k, l⟩ = ⟨keptS k l, leftC l⟩ := fenceM_eq hok
    rw [hres]
    refine DW.regs ?_
    refine RegO.step rfl (OpStep.callP (io := 0) (id := 3) (off := 0) (p := []) (sz := 2) (n := 1) (cs0 := dMem k l) rfl (by simp [callArgs]; rfl) (fence_spec k l hl hk (memOk_fits hok)) (by simp) rfl rfl (by simp) rfl (by simp) (by simp) (by simp) (by simp [callArgs, FS.lend]; rfl) (by simp [rosOk, roA_, toRC, mapO]) (by simp [widen, ownV, ownC]) (by simp [finish, packDV, packD, ptBack]; rfl)) ?_
    refine RegO.nil ?_
    refine DW.norm [(2, _), (3, _)] [(1, _), (2, _), (3, _)] [] (by simp [mapV, pzR, inR, rD_len_Cell]; exact ⟨rfl, rfl⟩) (by simp [mapV, pzR, inR, rD_len_Cell]; exact ⟨rfl, rfl, rfl⟩) (by simp [mapV, pzR, inR, rD_len_Cell]) (by rfl) ?_
    refine DW.seq ?_
    refine DW.reg (by simp [mapV, pzR, inR, rD_len_Cell]; rfl) ?_
    refine DW.ret ?_
    simp [Try.results31, mapV, pzR, inR, rD_len_Cell]
  · have hok : memOk k l = false := by simpa using hc0
    have hres : fenceM ⟨k, l⟩ = ⟨k, l⟩ := by simp [fenceM, hok]
    rw [hres]
    refine DW.skip ?_
    refine DW.seq ?_
    refine DW.reg (by simp [mapV, pzR, inR, rD_len_Cell]; rfl) ?_
    refine DW.ret ?_
    simp [Try.results31, mapV, pzR, inR, rD_len_Cell]
end Go.Proofs.Ytjjdjkkhhcbogaa.DM
