import Derived.Test.YtjjdjkkhhcbogaaFW17
import Derived.Test.YtjjdjkkhhcbogaaFW18
namespace Go.Proofs.Ytjjdjkkhhcbogaa.DM
set_option linter.unusedVariables false
set_option linter.unusedSimpArgs false
set_option maxRecDepth 4000
set_option maxHeartbeats 8000000
def okW (w : Write) : Prop := -1 ≤ w.At ∧ w.At ≤ 4294967296 ∧ w.Word.size ≤ 8

theorem l20List_ex (c : Cur) (hc : c.ok) : ∃ ds az, (∃ (l : List Write) (c1 : Cur), ds = [dr l] ∧ az = [.ptr (curD c1)] ∧ c1.ok ∧ l.length ≤ 6 ∧ ∀ w ∈ l, okW w) ∧ Spec Try.prog 137 [.ptr (curD c)] [none] ds az := by
  refine Spec.introX Try.func137 rfl rfl Try.ntmps137 rfl (by simp) ?_
  refine DX.seq ?_
  refine DX.reg (by simp (maxSteps := 200000) (disch := first | omega | (simp; done) | fail) [wrapI, leT, leF, ltT, ltF, eqF, nleT, nleF, nltT, nltF, mapV, pzR, inR]; rfl) ?_
  refine DX.seq ?_
  refine DX.reg (by simp (maxSteps := 200000) (disch := first | omega | (simp; done) | fail) [wrapI, leT, leF, ltT, ltF, eqF, nleT, nleF, nltT, nltF, mapV, pzR, inR]; rfl) ?_
  refine DX.ghost (Ghost.nlRow 3 19 2 (by simp) (by simp)) ?_
  refine DX.seq ?_
  refine DX.seq ?_
  refine DX.reg (by simp (maxSteps := 200000) (disch := first | omega | (simp; done) | fail) [wrapI, leT, leF, ltT, ltF, eqF, nleT, nleF, nltT, nltF, mapV, pzR, inR]; rfl) ?_
  refine DX.block ?_
  refine DX.loopS (α := Nat × List Write × Cur) (fun a => a.1 ≤ 6 ∧ a.2.2.ok ∧ a.2.1.length = a.1 ∧ ∀ w ∈ a.2.1, okW w) (fun a => 6 - a.1) (fun a => [(4, vi a.1), (3, .v (.one (.sl 19 [] 0 a.1)))]) (fun a => [(19, .ow () 2 a.1 (rD a.2.1)), (0, .ow () 3 1 (curD a.2.2))]) [(0, _)] [] [(0, .pt 0 [] 0)] (0, [], c) (⟨by omega, hc, rfl, by simp⟩) (by simp; exact rfl) (by simp) (by simp) (by rfl) ?_
  rintro ⟨i, l, d⟩ ⟨hi, hd, hll, hall⟩
  simp only at hi hd hll hall ⊢
  have hdd := (belowC_ok hd 6).1
  obtain ⟨d1, hd1e⟩ : ∃ d1, belowC d 6 = d1 := ⟨_, rfl⟩
  have hd1 : d1.ok := hd1e ▸ hdd
  have hT := rD_take_Write l
  have hTl := rD_len_Write l
  rw [hll] at hT hTl
  have hb2 : (i + 1) * 24 ≤ 140737488355328 := by omega
  have hb3 : i + 1 ≤ 140737488355328 := by omega
  refine DX.seq ?_
  refine DX.seq ?_
  refine DX.regs ?_
  refine RegOX.opN 2 (by simp (maxSteps := 200000) (disch := first | omega | (simp; done) | fail) [wrapI, leT, leF, ltT, ltF, eqF, nleT, nleF, nltT, nltF, mapV, pzR, inR, hd1e, hT, hTl, hb2, hb3]; rfl) ?_
  refine RegOX.step rfl (OpStep.callP (io := 0) (id := 0) (off := 0) (p := []) (sz := 3) (n := 1) (cs0 := curD d) rfl (by simp [callArgs]; rfl) (l01Below_spec d hd 6) (by simp) rfl rfl (by simp) rfl (by simp) (by simp) (by simp) (by simp [callArgs, FS.lend]; rfl) (by simp [rosOk, roA_, toRC, mapO]) (by simp [widen, ownV, ownC]) (by simp [finish, packDV, packD, ptBack]; rfl)) ?_
  refine RegOX.opN 1 (by simp (maxSteps := 200000) (disch := first | omega | (simp; done) | fail) [wrapI, leT, leF, ltT, ltF, eqF, nleT, nleF, nltT, nltF, mapV, pzR, inR, hd1e, hT, hTl, hb2, hb3]; rfl) ?_
  refine RegOX.nil ?_
  refine DX.norm [(0, _), (3, _), (4, _), (9, _)] [(0, _), (19, _)] [(0, _)] (by simp [mapV, pzR, inR, hd1e, hT, hTl, hb2, hb3]; exact ⟨rfl, rfl, rfl, rfl⟩) (by simp [mapV, pzR, inR, hd1e, hT, hTl, hb2, hb3]; exact ⟨rfl, rfl⟩) (by simp [mapV, pzR, inR, hd1e, hT, hTl, hb2, hb3]; rfl) (by rfl) ?_
  refine DX.condB (by simp (maxSteps := 200000) (disch := first | omega | (simp; done) | fail) [wrapI, leT, leF, ltT, ltF, eqF, nleT, nleF, nltT, nltF, mapV, pzR, inR, hd1e, hT, hTl, hb2, hb3]; exact rfl) (fun hc0 => ?_) (fun hc0 => ?_)
  · have hlt : (i : Int) < belowV d 6 := by simpa using hc0
    have hb6 := (belowV_bd d 6).2 (by omega)
    have hi5 : i < 6 := by omega
    have hw := wr ((i : Int) + 1) (by omega) (by omega)
    have hd2 := (belowC_ok hd1 100).1
    have hv := belowV_bd d1 100
    have hv2 := hv.2 (by omega)
    obtain ⟨d2, hd2e⟩ : ∃ d2, belowC d1 100 = d2 := ⟨_, rfl⟩
    rw [hd2e] at hd2
    have hall2 : ∀ w ∈ l ++ [⟨belowV d1 100, textB d2 8⟩], okW w := by
      intro w hw
      rcases List.mem_append.1 hw with hw | hw
      · exact hall w hw
      · rw [List.mem_singleton.1 hw]; refine ⟨by simp only; omega, by simp only; omega, ?_⟩; simp
    have hRd : rD [(⟨belowV d1 100, textB d2 8⟩ : Write)] = [T.sc (.int .i64 (belowV d1 100)), T.sc (.string (textB d2 8))] := rfl
    refine DX.skip ?_
    refine DX.seq ?_
    refine DX.block ?_
    refine DX.regs ?_
    refine RegOX.opN 2 (by simp [mapV, pzR, inR, hw, hd2e, hd1e, hT, hTl, hb2, hb3]; rfl) ?_
    refine RegOX.step rfl (OpStep.callP (io := 0) (id := 0) (off := 0) (p := []) (sz := 3) (n := 1) (cs0 := curD d1) rfl (by simp [callArgs]; rfl) (l01Below_spec d1 hd1 100) (by simp) rfl rfl (by simp) rfl (by simp) (by simp) (by simp) (by simp [callArgs, FS.lend]; rfl) (by simp [rosOk, roA_, toRC, mapO]) (by simp [widen, ownV, ownC]) (by simp [finish, packDV, packD, ptBack]; rfl)) ?_
    refine RegOX.opN 1 (by simp [mapV, pzR, inR, hw, hd2e, hd1e, hT, hTl, hb2, hb3]; rfl) ?_
    refine RegOX.step rfl (OpStep.callP (io := 0) (id := 0) (off := 0) (p := []) (sz := 3) (n := 1) (cs0 := curD d2) rfl (by simp [callArgs]; rfl) (l01Text_spec d2 hd2 8 (by omega)) (by simp) rfl rfl (by simp) rfl (by simp) (by simp) (by simp) (by simp [callArgs, FS.lend]; rfl) (by simp [rosOk, roA_, toRC, mapO]) (by simp [widen, ownV, ownC]) (by simp [finish, packDV, packD, ptBack]; rfl)) ?_
    refine RegOX.opN 4 (by simp [mapV, pzR, inR, hw, hd2e, hd1e, hT, hTl, hb2, hb3]; rfl) ?_
    refine RegOX.nil ?_
    refine DX.norm [(0, _), (3, _), (4, _)] [(0, _), (19, _)] [(0, _)] (by simp [mapV, pzR, inR, hw, hd2e, hd1e, hT, hTl, hb2, hb3]; exact ⟨rfl, rfl, rfl⟩) (by simp [mapV, pzR, inR, hw, hd2e, hd1e, hT, hTl, hb2, hb3]; exact ⟨rfl, rfl⟩) (by simp [mapV, pzR, inR, hw, hd2e, hd1e, hT, hTl, hb2, hb3]; rfl) (by rfl) ?_
    refine DX.reg (by simp (maxSteps := 200000) (disch := first | omega | (simp; done) | fail) [wrapI, leT, leF, ltT, ltF, eqF, nleT, nleF, nltT, nltF, mapV, pzR, inR, hw, hd2e, hd1e, hT, hTl, hb2, hb3]; rfl) ?_
    exact ⟨(i + 1, l ++ [⟨belowV d1 100, textB d2 8⟩], textC d2 8), ⟨by omega, (textC_ok hd2 8).1, by simp [hll], hall2⟩, by simp only; omega, by simp [mapV, pzR, inR, hw], by simp [mapV, pzR, inR, rD_append, hRd], by simp [mapV, pzR, inR], by rfl⟩
  · refine DX.exit ?_
    refine DX.seq ?_
    refine DX.reg (by simp (maxSteps := 200000) (disch := first | omega | (simp; done) | fail) [wrapI, leT, leF, ltT, ltF, eqF, nleT, nleF, nltT, nltF, mapV, pzR, inR, hd1e, hT, hTl, hb2, hb3]; rfl) ?_
    refine DX.ret ?_
    refine ⟨_, _, ⟨l, d1, rfl, rfl, hd1, by omega, hall⟩, ?_⟩
    simp [Try.results137, mapV, pzR, inR, hT, hTl, hll]
end Go.Proofs.Ytjjdjkkhhcbogaa.DM
