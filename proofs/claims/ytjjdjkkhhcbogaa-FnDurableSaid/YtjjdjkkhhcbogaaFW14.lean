import Derived.Test.YtjjdjkkhhcbogaaFW13
namespace Go.Proofs.Ytjjdjkkhhcbogaa.DM
set_option linter.unusedVariables false
set_option linter.unusedSimpArgs false
set_option maxRecDepth 4000
set_option maxHeartbeats 8000000
def keptF (p : Int) (k : ByteArray) (l : List Cell) : ByteArray := ⟨(keptP p l.zipIdx k.data.toList).toArray⟩
def fallM (m : Memory) (p : Int) : Memory := if memOk m.Kept m.Cells && decide (0 ≤ p) then ⟨keptF p m.Kept m.Cells, []⟩ else m
theorem fall_spec (p : Int) (k : ByteArray) (l : List Cell) (hl : l.length < 2 ^ 40) (hk : k.size < 2 ^ 40) (hf : ∀ c ∈ l, fitsC k.size c) : Spec Try.prog 94 [.ptr (dMem k l), ri p] [] [] [.ptr (dMem (keptF p k l) []), ri p] := by
  refine Spec.intro Try.func94 rfl rfl Try.ntmps94 rfl (by simp) ?_
  refine DW.seq ?_
  refine DW.reg (by simp; rfl) ?_
  refine DW.regs ?_
  refine RegO.opN 1 (by simp; rfl) ?_
  refine RegO.step rfl (OpStep.makeFunc (ids := [3]) rfl rfl (by decide) (by simp) (by simp)) ?_
  refine RegO.step rfl (OpStep.callP (io := 0) (id := 0) (off := 0) (p := []) (sz := 2) (n := 1) (cs0 := dMem k l) rfl (by simp [callArgs]; rfl) (keepFall_spec p k l hl hk hf) (by simp) rfl rfl (by simp) rfl (by simp) (by simp) (by simp) (by simp [callArgs, FS.lend]; rfl) (by simp [rosOk, roA_, toRC, mapO, FS.lend, toRTs, toRT]) (by simp [widen, ownV, ownC, noRoL, noRo]) (by simp [finish, packDV, packD, ptBack]; rfl)) ?_
  refine RegO.nil ?_
  simp [Try.results94, mapV, pzR, inR, keptF]
theorem implFallen_spec (k : ByteArray) (l : List Cell) (p : Int) (hk : k.size < 2 ^ 40) (hl : l.length < 2 ^ 40) : Spec Try.prog 34 [raMemory ⟨k, l⟩, ri p] [some 2] (dM (fallM ⟨k, l⟩ p)) [raMemory ⟨k, l⟩, ri p] := by
  refine Spec.intro Try.func34 rfl rfl Try.ntmps34 rfl (by simp) ?_
  refine DW.seq ?_
  refine DW.reg (by simp (maxSteps := 200000) (disch := first | omega | (simp; done) | fail) [wrapI, leT, leF, ltT, ltF, eqF, nleT, nleF, nltT, nltF, mapV, pzR, inR, rD_len_Cell]; rfl) ?_
  refine DW.seq ?_
  refine DW.regs ?_
  refine RegO.opN 1 (by simp [mapV, pzR, inR, rD_len_Cell]; rfl) ?_
  refine RegO.step rfl (OpStep.callA rfl (by simp [mapV, pzR, inR, rD_len_Cell]; exact ⟨rfl, rfl⟩) (by simp [mapV, pzR, inR, rD_len_Cell]; rfl) (by exact copyMemory_spec _ _ hl) (by simp) (by simp [mapV, pzR, inR, rD_len_Cell]; rfl)) ?_
  refine RegO.opN 2 (by simp [mapV, pzR, inR, rD_len_Cell]; rfl) ?_
  refine RegO.nil ?_
  refine DW.norm [(1, _), (2, _), (4, _), (5, _)] [(2, _), (4, _), (5, _)] [] (by simp [mapV, pzR, inR, rD_len_Cell]; exact ⟨rfl, rfl, rfl, rfl⟩) (by simp [mapV, pzR, inR, rD_len_Cell]; exact ⟨rfl, rfl, rfl⟩) (by simp [mapV, pzR, inR, rD_len_Cell]) (by rfl) ?_
  refine DW.seq ?_
  refine DW.seq ?_
  have hsp : ((memOk k l) = false) ∨ ((memOk k l) = true) := by
    cases (memOk k l) <;> simp
  rcases hsp with g0 | g0
  · skip
    have hres : fallM ⟨k, l⟩ p = ⟨k, l⟩ := by simp [fallM, g0]
    rw [hres]
    refine DW.regs ?_
    refine RegO.opN 1 (by simp (maxSteps := 200000) (disch := first | omega | (simp; done) | fail) [wrapI, leT, leF, ltT, ltF, eqF, nleT, nleF, nltT, nltF, mapV, pzR, inR, rD_len_Cell, g0]; rfl) ?_
    refine RegO.step rfl (OpStep.callA rfl (by simp (maxSteps := 200000) (disch := first | omega | (simp; done) | fail) [wrapI, leT, leF, ltT, ltF, eqF, nleT, nleF, nltT, nltF, mapV, pzR, inR, rD_len_Cell, g0]; exact ⟨rfl, rfl⟩) (by simp (maxSteps := 200000) (disch := first | omega | (simp; done) | fail) [wrapI, leT, leF, ltT, ltF, eqF, nleT, nleF, nltT, nltF, mapV, pzR, inR, rD_len_Cell, g0]; rfl) (by exact memOk_spec k l hk hl) (by simp) (by simp (maxSteps := 200000) (disch := first | omega | (simp; done) | fail) [wrapI, leT, leF, ltT, ltF, eqF, nleT, nleF, nltT, nltF, mapV, pzR, inR, rD_len_Cell, g0]; rfl)) ?_
    refine RegO.opN 4 (by simp (maxSteps := 200000) (disch := first | omega | (simp; done) | fail) [wrapI, leT, leF, ltT, ltF, eqF, nleT, nleF, nltT, nltF, mapV, pzR, inR, rD_len_Cell, g0]; rfl) ?_
    refine RegO.nil ?_
    refine DW.condF (by simp (maxSteps := 200000) (disch := first | omega | (simp; done) | fail) [wrapI, leT, leF, ltT, ltF, eqF, nleT, nleF, nltT, nltF, mapV, pzR, inR, rD_len_Cell, g0]) ?_
    refine DW.skip ?_
    refine DW.seq ?_
    refine DW.reg (by simp [mapV, pzR, inR, rD_len_Cell, g0]; rfl) ?_
    refine DW.ret ?_
    simp [Try.results34, mapV, pzR, inR, rD_len_Cell]
  · skip
    refine DW.regs ?_
    refine RegO.opN 1 (by simp (maxSteps := 200000) (disch := first | omega | (simp; done) | fail) [wrapI, leT, leF, ltT, ltF, eqF, nleT, nleF, nltT, nltF, mapV, pzR, inR, rD_len_Cell, g0]; rfl) ?_
    refine RegO.step rfl (OpStep.callA rfl (by simp (maxSteps := 200000) (disch := first | omega | (simp; done) | fail) [wrapI, leT, leF, ltT, ltF, eqF, nleT, nleF, nltT, nltF, mapV, pzR, inR, rD_len_Cell, g0]; exact ⟨rfl, rfl⟩) (by simp (maxSteps := 200000) (disch := first | omega | (simp; done) | fail) [wrapI, leT, leF, ltT, ltF, eqF, nleT, nleF, nltT, nltF, mapV, pzR, inR, rD_len_Cell, g0]; rfl) (by exact memOk_spec k l hk hl) (by simp) (by simp (maxSteps := 200000) (disch := first | omega | (simp; done) | fail) [wrapI, leT, leF, ltT, ltF, eqF, nleT, nleF, nltT, nltF, mapV, pzR, inR, rD_len_Cell, g0]; rfl)) ?_
    refine RegO.opN 4 (by simp (maxSteps := 200000) (disch := first | omega | (simp; done) | fail) [wrapI, leT, leF, ltT, ltF, eqF, nleT, nleF, nltT, nltF, mapV, pzR, inR, rD_len_Cell, g0]; rfl) ?_
    refine RegO.nil ?_
    refine DW.condB (by simp (maxSteps := 200000) (disch := first | omega | (simp; done) | fail) [wrapI, leT, leF, ltT, ltF, eqF, nleT, nleF, nltT, nltF, mapV, pzR, inR, rD_len_Cell, g0]; exact rfl) (fun hc0 => ?_) (fun hc0 => ?_)
    · have hp : 0 ≤ p := by simpa using hc0
      have hres : fallM ⟨k, l⟩ p = ⟨keptF p k l, []⟩ := by simp [fallM, g0, hp]
      rw [hres]
      refine DW.regs ?_
      refine RegO.opN 1 (by simp (maxSteps := 200000) (disch := first | omega | (simp; done) | fail) [wrapI, leT, leF, ltT, ltF, eqF, nleT, nleF, nltT, nltF, mapV, pzR, inR, rD_len_Cell, g0]; rfl) ?_
      refine RegO.step rfl (OpStep.callP (io := 0) (id := 5) (off := 0) (p := []) (sz := 2) (n := 1) (cs0 := dMem k l) rfl (by simp [callArgs]; rfl) (fall_spec p k l hl hk (memOk_fits g0)) (by simp) rfl rfl (by simp) rfl (by simp) (by simp) (by simp) (by simp [callArgs, FS.lend]; rfl) (by simp [rosOk, roA_, toRC, mapO]) (by simp [widen, ownV, ownC]) (by simp [finish, packDV, packD, ptBack]; rfl)) ?_
      refine RegO.nil ?_
      refine DW.norm [(4, _), (5, _)] [(2, _), (4, _), (5, _)] [] (by simp [mapV, pzR, inR, rD_len_Cell, g0]; exact ⟨rfl, rfl⟩) (by simp [mapV, pzR, inR, rD_len_Cell, g0]; exact ⟨rfl, rfl, rfl⟩) (by simp [mapV, pzR, inR, rD_len_Cell, g0]) (by rfl) ?_
      refine DW.seq ?_
      refine DW.reg (by simp [mapV, pzR, inR, rD_len_Cell, g0]; rfl) ?_
      refine DW.ret ?_
      simp [Try.results34, mapV, pzR, inR, rD_len_Cell]
    · have hp : ¬ 0 ≤ p := by simpa using hc0
      have hp2 : decide (0 ≤ p) = false := by simpa using hp
      have hres : fallM ⟨k, l⟩ p = ⟨k, l⟩ := by simp only [fallM, hp2, Bool.and_false]; rfl
      rw [hres]
      refine DW.skip ?_
      refine DW.seq ?_
      refine DW.reg (by simp [mapV, pzR, inR, rD_len_Cell, g0]; rfl) ?_
      refine DW.ret ?_
      simp [Try.results34, mapV, pzR, inR, rD_len_Cell]
end Go.Proofs.Ytjjdjkkhhcbogaa.DM
