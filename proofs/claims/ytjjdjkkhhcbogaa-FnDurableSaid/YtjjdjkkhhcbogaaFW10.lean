import Derived.Test.YtjjdjkkhhcbogaaFW9
namespace Go.Proofs.Ytjjdjkkhhcbogaa.DM
set_option linter.unusedVariables false
set_option linter.unusedSimpArgs false
set_option maxRecDepth 4000
set_option maxHeartbeats 8000000
def plsC (c : Cur) : Nat → Cur
  | 0 => c
  | k + 1 => belowC (plsC c k) 10000
theorem plsC_ok {c : Cur} (h : c.ok) : ∀ k, (plsC c k).ok
  | 0 => h
  | k + 1 => (belowC_ok (plsC_ok h k) 10000).1
def plsL (c : Cur) (k : Nat) : List Int := (List.range k).map fun i => belowV (plsC c i) 10000
@[simp] theorem plsL_len (c : Cur) (k : Nat) : (plsL c k).length = k := by simp [plsL]
theorem plsL_succ (c : Cur) (k : Nat) : plsL c (k + 1) = plsL c k ++ [belowV (plsC c k) 10000] := by simp [plsL, List.range_succ]

theorem rR_len_i (l : List Int) : (rD l).length = l.length := by have := rD_len l; rw [w_Int, Nat.mul_one] at this; exact this
theorem drawPlaces_spec (code : List UInt8) (hc : code.length < 2 ^ 62) : Spec Try.prog 33 [ra code] [none] [dr (plsL (newC code) 12)] [ra code] := by
  refine Spec.intro Try.func33 rfl rfl Try.ntmps33 rfl (by simp) ?_
  refine DW.seq ?_
  refine DW.reg (by simp (maxSteps := 200000) (disch := first | omega | (simp; done) | fail) [wrapI, leT, leF, ltT, ltF, eqF, nleT, nleF, nltT, nltF, mapV, pzR, inR]; rfl) ?_
  refine DW.seq ?_
  refine DW.regs ?_
  refine RegO.opN 1 (by simp (maxSteps := 200000) (disch := first | omega | (simp; done) | fail) [wrapI, leT, leF, ltT, ltF, eqF, nleT, nleF, nltT, nltF, mapV, pzR, inR]; rfl) ?_
  refine RegO.step rfl (OpStep.callB (az := [ra code]) rfl rfl (by decide) (by simp) (by simp [callArgs]; rfl) (l01New_spec code hc) (by simp [rosOk, roA_, toRC, mapO]) (by simp [widen, ownV, ownC])) ?_
  refine RegO.opN 1 (by simp (maxSteps := 200000) (disch := first | omega | (simp; done) | fail) [wrapI, leT, leF, ltT, ltF, eqF, nleT, nleF, nltT, nltF, mapV, pzR, inR]; rfl) ?_
  refine RegO.nil ?_
  refine DW.seq ?_
  refine DW.reg (by simp (maxSteps := 200000) (disch := first | omega | (simp; done) | fail) [wrapI, leT, leF, ltT, ltF, eqF, nleT, nleF, nltT, nltF, mapV, pzR, inR]; rfl) ?_
  refine DW.ghost (Ghost.nlRow 4 17 1 (by simp) (by simp)) ?_
  refine DW.seq ?_
  refine DW.seq ?_
  refine DW.reg (by simp (maxSteps := 200000) (disch := first | omega | (simp; done) | fail) [wrapI, leT, leF, ltT, ltF, eqF, nleT, nleF, nltT, nltF, mapV, pzR, inR]; rfl) ?_
  refine DW.block ?_
  refine DW.loopS (α := Nat) (fun i => i ≤ 12) (fun i => 12 - i) (fun i => [(5, vi i), (4, .v (.one (.sl 17 [] 0 i)))]) (fun i => [(17, .ow () 1 i (rD (plsL (newC code) i))), (7, .ow () 3 1 (curD (plsC (newC code) i)))]) [(3, _)] [] [] 0 (by omega) (by simp; exact rfl) (by simp [plsL, plsC]) (by simp) (by rfl) ?_
  intro i hi
  refine DW.seq ?_
  refine DW.seq ?_
  refine DW.reg (by simp (maxSteps := 200000) (disch := first | omega | (simp; done) | fail) [wrapI, leT, leF, ltT, ltF, eqF, nleT, nleF, nltT, nltF, mapV, pzR, inR]; rfl) ?_
  refine DW.condB (by simp (maxSteps := 200000) (disch := first | omega | (simp; done) | fail) [wrapI, leT, leF, ltT, ltF, eqF, nleT, nleF, nltT, nltF, mapV, pzR, inR]; exact rfl) (fun hc0 => ?_) (fun hc0 => ?_)
  · have hlt : i < 12 := by
      have : (i : Int) < 12 := by simpa using hc0
      omega
    have hb2 : (i + 1) * 8 ≤ 140737488355328 := by omega
    have hb3 : i + 1 ≤ 140737488355328 := by omega
    have hS := plsL_succ (newC code) i
    have hC : plsC (newC code) (i + 1) = belowC (plsC (newC code) i) 10000 := rfl
    have hok := plsC_ok (newC_ok hc) i
    have hw := wr ((i : Int) + 1) (by omega) (by omega)
    have hll := plsL_len (newC code) i
    generalize plsC (newC code) i = c1 at hS hC hok ⊢
    generalize plsL (newC code) i = l1 at hS hll ⊢
    have htk : List.take i (rD l1) = rD l1 := List.take_of_length_le (by rw [rR_len_i]; omega)
    refine DW.skip ?_
    refine DW.seq ?_
    refine DW.block ?_
    refine DW.regs ?_
    refine RegO.opN 2 (by simp [mapV, pzR, inR, hw, hb2, hb3, hll, htk]; rfl) ?_
    refine RegO.step rfl (OpStep.callP (io := 0) (id := 7) (off := 0) (p := []) (sz := 3) (n := 1) (cs0 := curD c1) rfl (by simp [callArgs]; rfl) (l01Below_spec c1 hok 10000) (by simp) rfl rfl (by simp) rfl (by simp) (by simp) (by simp) (by simp [callArgs, FS.lend]; rfl) (by simp [rosOk, roA_, toRC, mapO]) (by simp [widen, ownV, ownC]) (by simp [finish, packDV, packD, ptBack]; rfl)) ?_
    refine RegO.opN 3 (by simp [mapV, pzR, inR, hw, hb2, hb3, hll, htk]; rfl) ?_
    refine RegO.nil ?_
    refine DW.reg (by simp (maxSteps := 200000) (disch := first | omega | (simp; done) | fail) [wrapI, leT, leF, ltT, ltF, eqF, nleT, nleF, nltT, nltF, mapV, pzR, inR, hw, hb2, hb3, hll, htk]; rfl) ?_
    exact ⟨i + 1, by omega, by omega, by simp [mapV, pzR, inR, hw], by simp [hS, hC, hll, rD_append, mapV, pzR, inR]; rfl, by simp, by rfl⟩
  · have hil : i = 12 := by
      have : ¬ (i : Int) < 12 := by simpa using hc0
      omega
    subst hil
    refine DW.exit ?_
    refine DW.seq ?_
    refine DW.reg (by simp (maxSteps := 200000) (disch := first | omega | (simp; done) | fail) [wrapI, leT, leF, ltT, ltF, eqF, nleT, nleF, nltT, nltF, mapV, pzR, inR]; rfl) ?_
    refine DW.ret ?_
    have htk : List.take 12 (rD (plsL (newC code) 12)) = rD (plsL (newC code) 12) := List.take_of_length_le (by rw [rR_len_i]; simp)
    simp [Try.results33, mapV, pzR, inR, htk]
end Go.Proofs.Ytjjdjkkhhcbogaa.DM
