import Derived.Test.YtciieaidbiejmaaFW1
import Derived.Test.YtciieaidbiejmaaDD
namespace Go.Proofs.Ytciieaidbiejmaa.DM
set_option linter.unusedVariables false
set_option linter.unusedSimpArgs false
set_option maxRecDepth 4000
set_option maxHeartbeats 8000000
def big4 (c : Cur) : Int := byteM c * 16777216 + byteM (curM c) * 65536 + byteM (curM (curM c)) * 256 + byteM (curM (curM (curM c)))
def belowV (c : Cur) (n : Int) : Int := if n ≤ 0 then 0 else if n ≤ 256 then (byteM c).tmod n else (big4 c).tmod n
def belowC (c : Cur) (n : Int) : Cur := if n ≤ 0 then c else if n ≤ 256 then curM c else curM (curM (curM (curM c)))
theorem belowC_ok {c : Cur} (h : c.ok) (n : Int) : (belowC c n).ok ∧ (belowC c n).b = c.b := by
  unfold belowC
  split
  · exact ⟨h, rfl⟩
  · split
    · exact curM_ok h
    · exact ⟨(curM_ok (curM_ok (curM_ok (curM_ok h).1).1).1).1, rfl⟩
theorem tmod_bd {a n : Int} (h0 : 0 ≤ a) (hn : 0 < n) : 0 ≤ a.tmod n ∧ a.tmod n < n := ⟨Int.tmod_nonneg n h0, Int.tmod_lt_of_pos a hn⟩
theorem belowV_bd (c : Cur) (n : Int) : 0 ≤ belowV c n ∧ (0 < n → belowV c n < n) := by
  have h1 := byteM_bd c; have h2 := byteM_bd (curM c); have h3 := byteM_bd (curM (curM c)); have h4 := byteM_bd (curM (curM (curM c)))
  unfold belowV
  split
  · exact ⟨Int.le_refl _, fun h => by omega⟩
  · split
    · have := tmod_bd (a := byteM c) (n := n) h1.1 (by omega)
      exact ⟨this.1, fun _ => this.2⟩
    · have := tmod_bd (a := big4 c) (n := n) (by unfold big4; omega) (by omega)
      exact ⟨this.1, fun _ => this.2⟩

theorem l01Below_spec (c : Cur) (hc : c.ok) (n : Int) : Spec Try.prog 30 [.ptr (curD c), ri n] [none] [di (belowV c n)] [.ptr (curD (belowC c n)), ri n] := by
  refine Spec.intro Try.func30 rfl rfl Try.ntmps30 rfl (by simp) ?_
  refine DW.seq ?_
  refine DW.reg (by simp (maxSteps := 200000) (disch := first | omega | (simp; done) | fail) [wrapI, leT, leF, ltT, ltF, eqF, nleT, nleF, nltT, nltF, mapV, pzR, inR]; rfl) ?_
  refine DW.seq ?_
  refine DW.seq ?_
  refine DW.reg (by simp (maxSteps := 200000) (disch := first | omega | (simp; done) | fail) [wrapI, leT, leF, ltT, ltF, eqF, nleT, nleF, nltT, nltF, mapV, pzR, inR]; rfl) ?_
  refine DW.condB (by simp (maxSteps := 200000) (disch := first | omega | (simp; done) | fail) [wrapI, leT, leF, ltT, ltF, eqF, nleT, nleF, nltT, nltF, mapV, pzR, inR]; exact rfl) (fun hc0 => ?_) (fun hc0 => ?_)
  · have hn : n ≤ 0 := by simpa using hc0
    have e1 : belowV c n = 0 := by simp [belowV, hn]
    have e2 : belowC c n = c := by simp [belowC, hn]
    rw [e1, e2]
    refine DW.seq ?_
    refine DW.reg (by simp (maxSteps := 200000) (disch := first | omega | (simp; done) | fail) [wrapI, leT, leF, ltT, ltF, eqF, nleT, nleF, nltT, nltF, mapV, pzR, inR]; rfl) ?_
    refine DW.ret ?_
    simp [Try.results30, mapV, pzR, inR]
  · have hn : ¬ n ≤ 0 := by simpa using hc0
    have hnz : ¬ n = 0 := by omega
    refine DW.skip ?_
    refine DW.seq ?_
    refine DW.seq ?_
    refine DW.reg (by simp (maxSteps := 200000) (disch := first | omega | (simp; done) | fail) [wrapI, leT, leF, ltT, ltF, eqF, nleT, nleF, nltT, nltF, mapV, pzR, inR, hnz]; rfl) ?_
    refine DW.condB (by simp (maxSteps := 200000) (disch := first | omega | (simp; done) | fail) [wrapI, leT, leF, ltT, ltF, eqF, nleT, nleF, nltT, nltF, mapV, pzR, inR, hnz]; exact rfl) (fun hc1 => ?_) (fun hc1 => ?_)
    · have hm : n ≤ 256 := by simpa using hc1
      have e1 : belowV c n = (byteM c).tmod n := by simp [belowV, hn, hm]
      have e2 : belowC c n = curM c := by simp [belowC, hn, hm]
      rw [e1, e2]
      refine DW.seq ?_
      refine DW.regs ?_
      refine RegO.opN 1 (by simp (maxSteps := 200000) (disch := first | omega | (simp; done) | fail) [wrapI, leT, leF, ltT, ltF, eqF, nleT, nleF, nltT, nltF, mapV, pzR, inR, hnz]; rfl) ?_
      refine RegO.step rfl (OpStep.callP (io := 0) (id := 0) (off := 0) (p := []) (sz := 3) (n := 1) (cs0 := curD c) rfl (by simp [callArgs]; rfl) (l01Byte_spec c (hc)) (by simp) rfl rfl (by simp) rfl (by simp) (by simp) (by simp) (by simp [callArgs, FS.lend]; rfl) (by simp [rosOk, roA_, toRC, mapO]) (by simp [widen, ownV, ownC]) (by simp [finish, packDV, packD, ptBack]; rfl)) ?_
      refine RegO.opN 3 (by simp (maxSteps := 200000) (disch := first | omega | (simp; done) | fail) [wrapI, leT, leF, ltT, ltF, eqF, nleT, nleF, nltT, nltF, mapV, pzR, inR, hnz]; rfl) ?_
      refine RegO.nil ?_
      refine DW.ret ?_
      simp [Try.results30, mapV, pzR, inR]
    · have hm : ¬ n ≤ 256 := by simpa using hc1
      have e1 : belowV c n = (big4 c).tmod n := by simp [belowV, hn, hm]
      have e2 : belowC c n = curM (curM (curM (curM c))) := by simp [belowC, hn, hm]
      rw [e1, e2, big4]
      have b1 := byteM_bd c
      have b2 := byteM_bd (curM c)
      have b3 := byteM_bd (curM (curM c))
      have b4 := byteM_bd (curM (curM (curM c)))
      refine DW.skip ?_
      refine DW.seq ?_
      refine DW.regs ?_
      refine RegO.opN 1 (by simp (maxSteps := 200000) (disch := first | omega | (simp; done) | fail) [wrapI, leT, leF, ltT, ltF, eqF, nleT, nleF, nltT, nltF, mapV, pzR, inR, hnz]; rfl) ?_
      refine RegO.step rfl (OpStep.callP (io := 0) (id := 0) (off := 0) (p := []) (sz := 3) (n := 1) (cs0 := curD c) rfl (by simp [callArgs]; rfl) (l01Byte_spec c (hc)) (by simp) rfl rfl (by simp) rfl (by simp) (by simp) (by simp) (by simp [callArgs, FS.lend]; rfl) (by simp [rosOk, roA_, toRC, mapO]) (by simp [widen, ownV, ownC]) (by simp [finish, packDV, packD, ptBack]; rfl)) ?_
      refine RegO.opN 1 (by simp (maxSteps := 200000) (disch := first | omega | (simp; done) | fail) [wrapI, leT, leF, ltT, ltF, eqF, nleT, nleF, nltT, nltF, mapV, pzR, inR, hnz]; rfl) ?_
      refine RegO.nil ?_
      refine DW.norm [(0, _), (1, _), (5, _)] [(0, _)] [(0, _)] (by simp [mapV, pzR, inR, hnz]; exact ⟨rfl, rfl, rfl⟩) (by simp [mapV, pzR, inR, hnz]; rfl) (by simp [mapV, pzR, inR, hnz]; rfl) (by rfl) ?_
      refine DW.seq ?_
      refine DW.regs ?_
      refine RegO.opN 1 (by simp (maxSteps := 200000) (disch := first | omega | (simp; done) | fail) [wrapI, leT, leF, ltT, ltF, eqF, nleT, nleF, nltT, nltF, mapV, pzR, inR, hnz]; rfl) ?_
      refine RegO.step rfl (OpStep.callP (io := 0) (id := 0) (off := 0) (p := []) (sz := 3) (n := 1) (cs0 := curD (curM c)) rfl (by simp [callArgs]; rfl) (l01Byte_spec (curM c) ((curM_ok hc).1)) (by simp) rfl rfl (by simp) rfl (by simp) (by simp) (by simp) (by simp [callArgs, FS.lend]; rfl) (by simp [rosOk, roA_, toRC, mapO]) (by simp [widen, ownV, ownC]) (by simp [finish, packDV, packD, ptBack]; rfl)) ?_
      refine RegO.opN 1 (by simp (maxSteps := 200000) (disch := first | omega | (simp; done) | fail) [wrapI, leT, leF, ltT, ltF, eqF, nleT, nleF, nltT, nltF, mapV, pzR, inR, hnz]; rfl) ?_
      refine RegO.nil ?_
      refine DW.norm [(0, _), (1, _), (5, _), (6, _)] [(0, _)] [(0, _)] (by simp [mapV, pzR, inR, hnz]; exact ⟨rfl, rfl, rfl, rfl⟩) (by simp [mapV, pzR, inR, hnz]; rfl) (by simp [mapV, pzR, inR, hnz]; rfl) (by rfl) ?_
      refine DW.seq ?_
      refine DW.regs ?_
      refine RegO.opN 1 (by simp (maxSteps := 200000) (disch := first | omega | (simp; done) | fail) [wrapI, leT, leF, ltT, ltF, eqF, nleT, nleF, nltT, nltF, mapV, pzR, inR, hnz]; rfl) ?_
      refine RegO.step rfl (OpStep.callP (io := 0) (id := 0) (off := 0) (p := []) (sz := 3) (n := 1) (cs0 := curD (curM (curM c))) rfl (by simp [callArgs]; rfl) (l01Byte_spec (curM (curM c)) ((curM_ok (curM_ok hc).1).1)) (by simp) rfl rfl (by simp) rfl (by simp) (by simp) (by simp) (by simp [callArgs, FS.lend]; rfl) (by simp [rosOk, roA_, toRC, mapO]) (by simp [widen, ownV, ownC]) (by simp [finish, packDV, packD, ptBack]; rfl)) ?_
      refine RegO.opN 1 (by simp (maxSteps := 200000) (disch := first | omega | (simp; done) | fail) [wrapI, leT, leF, ltT, ltF, eqF, nleT, nleF, nltT, nltF, mapV, pzR, inR, hnz]; rfl) ?_
      refine RegO.nil ?_
      refine DW.norm [(0, _), (1, _), (5, _), (6, _), (7, _)] [(0, _)] [(0, _)] (by simp [mapV, pzR, inR, hnz]; exact ⟨rfl, rfl, rfl, rfl, rfl⟩) (by simp [mapV, pzR, inR, hnz]; rfl) (by simp [mapV, pzR, inR, hnz]; rfl) (by rfl) ?_
      refine DW.seq ?_
      refine DW.regs ?_
      refine RegO.opN 1 (by simp (maxSteps := 200000) (disch := first | omega | (simp; done) | fail) [wrapI, leT, leF, ltT, ltF, eqF, nleT, nleF, nltT, nltF, mapV, pzR, inR, hnz]; rfl) ?_
      refine RegO.step rfl (OpStep.callP (io := 0) (id := 0) (off := 0) (p := []) (sz := 3) (n := 1) (cs0 := curD (curM (curM (curM c)))) rfl (by simp [callArgs]; rfl) (l01Byte_spec (curM (curM (curM c))) ((curM_ok (curM_ok (curM_ok hc).1).1).1)) (by simp) rfl rfl (by simp) rfl (by simp) (by simp) (by simp) (by simp [callArgs, FS.lend]; rfl) (by simp [rosOk, roA_, toRC, mapO]) (by simp [widen, ownV, ownC]) (by simp [finish, packDV, packD, ptBack]; rfl)) ?_
      refine RegO.opN 1 (by simp (maxSteps := 200000) (disch := first | omega | (simp; done) | fail) [wrapI, leT, leF, ltT, ltF, eqF, nleT, nleF, nltT, nltF, mapV, pzR, inR, hnz]; rfl) ?_
      refine RegO.nil ?_
      refine DW.norm [(0, _), (1, _), (5, _), (6, _), (7, _), (8, _)] [(0, _)] [(0, _)] (by simp [mapV, pzR, inR, hnz]; exact ⟨rfl, rfl, rfl, rfl, rfl, rfl⟩) (by simp [mapV, pzR, inR, hnz]; rfl) (by simp [mapV, pzR, inR, hnz]; rfl) (by rfl) ?_
      refine DW.seq ?_
      refine DW.reg (by simp (maxSteps := 200000) (disch := first | omega | (simp; done) | fail) [wrapI, leT, leF, ltT, ltF, eqF, nleT, nleF, nltT, nltF, mapV, pzR, inR, hnz]; rfl) ?_
      refine DW.ret ?_
      simp [Try.results30, mapV, pzR, inR]
theorem l01Once_spec (c : Cur) (hc : c.ok) (n : Int) : Spec Try.prog 51 [.ptr (curD c), ri n] [none] [db (belowV c n == 0)] [.ptr (curD (belowC c n)), ri n] := by
  refine Spec.intro Try.func51 rfl rfl Try.ntmps51 rfl (by simp) ?_
  refine DW.seq ?_
  refine DW.reg (by simp (maxSteps := 200000) (disch := first | omega | (simp; done) | fail) [wrapI, leT, leF, ltT, ltF, eqF, nleT, nleF, nltT, nltF, mapV, pzR, inR]; rfl) ?_
  refine DW.seq ?_
  refine DW.regs ?_
  refine RegO.opN 2 (by simp (maxSteps := 200000) (disch := first | omega | (simp; done) | fail) [wrapI, leT, leF, ltT, ltF, eqF, nleT, nleF, nltT, nltF, mapV, pzR, inR]; rfl) ?_
  refine RegO.step rfl (OpStep.callP (io := 0) (id := 0) (off := 0) (p := []) (sz := 3) (n := 1) (cs0 := curD c) rfl (by simp [callArgs]; rfl) (l01Below_spec c hc n) (by simp) rfl rfl (by simp) rfl (by simp) (by simp) (by simp) (by simp [callArgs, FS.lend]; rfl) (by simp [rosOk, roA_, toRC, mapO]) (by simp [widen, ownV, ownC]) (by simp [finish, packDV, packD, ptBack]; rfl)) ?_
  refine RegO.opN 2 (by simp (maxSteps := 200000) (disch := first | omega | (simp; done) | fail) [wrapI, leT, leF, ltT, ltF, eqF, nleT, nleF, nltT, nltF, mapV, pzR, inR]; rfl) ?_
  refine RegO.nil ?_
  refine DW.ret ?_
  simp [Try.results51, mapV, pzR, inR]
end Go.Proofs.Ytciieaidbiejmaa.DM
