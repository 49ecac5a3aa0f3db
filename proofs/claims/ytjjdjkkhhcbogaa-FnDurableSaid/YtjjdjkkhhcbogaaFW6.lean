import Derived.Test.YtjjdjkkhhcbogaaFW5
import Derived.Test.YtjjdjkkhhcbogaaDD
namespace Go.Proofs.Ytjjdjkkhhcbogaa.DM
set_option linter.unusedVariables false
set_option linter.unusedSimpArgs false
set_option maxRecDepth 4000
set_option maxHeartbeats 8000000
def placeL (n : Int) : List Int := [-1, n, n + 1, 9223372036854775807, -9223372036854775808]
def placeV (c : Cur) (n : Int) : Int := if belowV c 15 = 0 then pickV (placeL n) (belowC c 15) else belowV (belowC c 15) n
def placeC (c : Cur) (n : Int) : Cur := if belowV c 15 = 0 then belowC (belowC c 15) 5 else belowC (belowC c 15) n
theorem placeC_ok {c : Cur} (h : c.ok) (n : Int) : (placeC c n).ok ∧ (placeC c n).b = c.b := by
  have h1 := belowC_ok h 15
  unfold placeC
  split
  · exact ⟨(belowC_ok h1.1 5).1, (belowC_ok h1.1 5).2.trans h1.2⟩
  · exact ⟨(belowC_ok h1.1 n).1, (belowC_ok h1.1 n).2.trans h1.2⟩
def memStep (m : Memory) (c : Cur) : Memory × Cur := if belowV c 5 = 0 then (fenceM m, belowC c 5) else if belowV c 5 = 1 then (flushM m (belowV (belowC c 5) 5), belowC (belowC c 5) 5) else (storeM m (belowV (belowC c 5) 10) (textB (belowC (belowC c 5) 10) 8), textC (belowC (belowC c 5) 10) 8)
theorem memStep_ok (m : Memory) {c : Cur} (h : c.ok) : (memStep m c).2.ok ∧ (memStep m c).2.b = c.b := by
  have h1 := belowC_ok h 5
  unfold memStep
  split
  · exact h1
  · split
    · exact ⟨(belowC_ok h1.1 5).1, (belowC_ok h1.1 5).2.trans h1.2⟩
    · have h2 := belowC_ok h1.1 10
      exact ⟨(textC_ok h2.1 8).1, (textC_ok h2.1 8).2.trans (h2.2.trans h1.2)⟩
theorem memStep_bd (m : Memory) (c : Cur) : (memStep m c).1.Kept.size = m.Kept.size ∧ (memStep m c).1.Cells.length ≤ m.Cells.length + 1 := by
  unfold memStep
  split
  · exact fenceM_bd m
  · split
    · exact flushM_bd m _
    · exact storeM_bd m _ _
def memLoop : Nat → Nat → Memory → Cur → Memory × Cur
  | 0, _, m, c => (m, c)
  | f + 1, i, m, c => if (i : Int) < belowV c 12 then memLoop f (i + 1) (memStep m (belowC c 12)).1 (memStep m (belowC c 12)).2 else (m, belowC c 12)
def memV (c : Cur) : Memory × Cur := memLoop 12 0 ⟨zeros ((1 + belowV c 5).toNat * 16), []⟩ (belowC c 5)

theorem l01Place_spec (c : Cur) (hc : c.ok) (n : Int) (hn : 0 ≤ n ∧ n ≤ 1000) : Spec Try.prog 78 [.ptr (curD c), ri n] [none] [di (placeV c n)] [.ptr (curD (placeC c n)), ri n] := by
  refine Spec.intro Try.func78 rfl rfl Try.ntmps78 rfl (by simp) ?_
  have h1 := belowC_ok hc 15
  refine DW.seq ?_
  refine DW.reg (by simp (maxSteps := 200000) (disch := first | omega | (simp; done) | fail) [wrapI, leT, leF, ltT, ltF, eqF, nleT, nleF, nltT, nltF, mapV, pzR, inR]; rfl) ?_
  refine DW.seq ?_
  refine DW.seq ?_
  refine DW.regs ?_
  refine RegO.opN 1 (by simp (maxSteps := 200000) (disch := first | omega | (simp; done) | fail) [wrapI, leT, leF, ltT, ltF, eqF, nleT, nleF, nltT, nltF, mapV, pzR, inR]; rfl) ?_
  refine RegO.step rfl (OpStep.callP (io := 0) (id := 0) (off := 0) (p := []) (sz := 3) (n := 1) (cs0 := curD c) rfl (by simp [callArgs]; rfl) (l01Once_spec c hc 15) (by simp) rfl rfl (by simp) rfl (by simp) (by simp) (by simp) (by simp [callArgs, FS.lend]; rfl) (by simp [rosOk, roA_, toRC, mapO]) (by simp [widen, ownV, ownC]) (by simp [finish, packDV, packD, ptBack]; rfl)) ?_
  refine RegO.nil ?_
  refine DW.condB (by simp (maxSteps := 200000) (disch := first | omega | (simp; done) | fail) [wrapI, leT, leF, ltT, ltF, eqF, nleT, nleF, nltT, nltF, mapV, pzR, inR]; exact rfl) (fun hc0 => ?_) (fun hc0 => ?_)
  · have hv : belowV c 15 = 0 := by simpa using hc0
    have e1 : placeV c n = pickV (placeL n) (belowC c 15) := by simp [placeV, hv]
    have e2 : placeC c n = belowC (belowC c 15) 5 := by simp [placeC, hv]
    rw [e1, e2]
    refine DW.seq ?_
    refine DW.regs ?_
    refine RegO.opN 5 (by simp (maxSteps := 200000) (disch := first | omega | (simp; done) | fail) [wrapI, leT, leF, ltT, ltF, eqF, nleT, nleF, nltT, nltF, mapV, pzR, inR]; rfl) ?_
    refine RegO.step rfl (pick_inl [] 0 11 (belowC c 15) h1.1 (placeL n) (by simp [placeL]) (by simp [placeL]) rfl rfl (by decide) (by simp [callArgs, placeL, mapV, pzR, inR]) (by decide) (by simp [mapV, pzR, inR]) (by simp [placeL, mapV, pzR, inR]) (by simp)) ?_
    refine RegO.opN 1 (by simp (maxSteps := 200000) (disch := first | omega | (simp; done) | fail) [wrapI, leT, leF, ltT, ltF, eqF, nleT, nleF, nltT, nltF, mapV, pzR, inR]; rfl) ?_
    refine RegO.nil ?_
    refine DW.ret ?_
    simp [Try.results78, mapV, pzR, inR, placeL]
  · have hv : ¬ belowV c 15 = 0 := by simpa using hc0
    have e1 : placeV c n = belowV (belowC c 15) n := by simp [placeV, hv]
    have e2 : placeC c n = belowC (belowC c 15) n := by simp [placeC, hv]
    rw [e1, e2]
    refine DW.skip ?_
    refine DW.seq ?_
    refine DW.regs ?_
    refine RegO.opN 2 (by simp (maxSteps := 200000) (disch := first | omega | (simp; done) | fail) [wrapI, leT, leF, ltT, ltF, eqF, nleT, nleF, nltT, nltF, mapV, pzR, inR]; rfl) ?_
    refine RegO.step rfl (OpStep.callP (io := 0) (id := 0) (off := 0) (p := []) (sz := 3) (n := 1) (cs0 := curD (belowC c 15)) rfl (by simp [callArgs]; rfl) (l01Below_spec (belowC c 15) h1.1 n) (by simp) rfl rfl (by simp) rfl (by simp) (by simp) (by simp) (by simp [callArgs, FS.lend]; rfl) (by simp [rosOk, roA_, toRC, mapO]) (by simp [widen, ownV, ownC]) (by simp [finish, packDV, packD, ptBack]; rfl)) ?_
    refine RegO.opN 1 (by simp (maxSteps := 200000) (disch := first | omega | (simp; done) | fail) [wrapI, leT, leF, ltT, ltF, eqF, nleT, nleF, nltT, nltF, mapV, pzR, inR]; rfl) ?_
    refine RegO.nil ?_
    refine DW.ret ?_
    simp [Try.results78, mapV, pzR, inR, placeL]
end Go.Proofs.Ytjjdjkkhhcbogaa.DM
