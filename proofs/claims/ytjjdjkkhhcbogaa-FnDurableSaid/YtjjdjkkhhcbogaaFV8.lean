import Derived.Test.YtjjdjkkhhcbogaaFV3
import Derived.Test.YtjjdjkkhhcbogaaFV5
import Derived.Test.YtjjdjkkhhcbogaaFV6
import Derived.Test.YtjjdjkkhhcbogaaFV7
namespace Go.Proofs.Ytjjdjkkhhcbogaa.DM
set_option linter.unusedVariables false
set_option linter.unusedSimpArgs false
set_option maxRecDepth 4000
set_option maxHeartbeats 8000000
theorem rD_getA (l : List Write) (i : Nat) (h : i < l.length) : (rD l)[i * 2]? = some (T.sc (.int .i64 l[i].At)) := by have := congrArg (·[0]?) (rD_drop_Write l i h); simpa using this
theorem rD_getW (l : List Write) (i : Nat) (h : i < l.length) : (rD l)[i * 2 + 1]? = some (T.sc (.string l[i].Word)) := by have := congrArg (·[1]?) (rD_drop_Write l i h); simpa using this
theorem rD_dropA (l : List Write) (i : Nat) (h : i < l.length) : (rD l).drop (i * 2) = [T.sc (.int .i64 l[i].At), T.sc (.string l[i].Word)] ++ rD (l.drop (i + 1)) := rD_drop_Write l i h
theorem durable_length (ws : List Write) (h : ¬ ws.length = 0) : (durable ws).length = ws.length + (linesOf ws).length + 1 := by unfold durable; rw [if_neg h]; simp; omega
theorem stepM_fence (m : Memory) (x : Int) (w : ByteArray) : stepM m ⟨3, x, w⟩ = fenceM m := by simp [stepM]
theorem FnDurable_spec (code : List UInt8) (hc : code.length < 2 ^ 62) : Spec Try.prog 6 [ra code] [none] [db true] [ra code] := by
  obtain ⟨ds0, az0, ⟨ws, rfl, rfl, hl17, hall⟩, hdraw⟩ := drawDurable_ex code hc
  have hl : ws.length ≤ 2 ^ 36 := by omega
  have hdl0 := durable_len ws
  have hdl : (durable ws).length < 2 ^ 40 := by omega
  have hll0 := linesOf_len ws
  have hll : (linesOf ws).length < 2 ^ 40 := by omega
  have hok0 : memOk (zeros (60 * 16)) [] = true := (memOk_iff _ _).2 ⟨by simp, by simp, by simp, .nil⟩
  have hlaw0 := fun i (hi : i < ws.length) h0 h1 => durable_law (ws := ws) (m := ⟨zeros (60 * 16), []⟩) hok0 rfl i hi h0 h1
  have hrun := runSteps_spec (zeros (60 * 16)) [] (durable ws) (by simp) (by simp only [List.length_nil]; omega)
  have hrun1 := runSteps_spec (zeros (1 * 16)) [] [] (by simp) (by simp)
  have hr1 : stepsM ⟨zeros (1 * 16), []⟩ [] = ⟨zeros (1 * 16), []⟩ := rfl
  rw [hr1] at hrun1
  have hbd := stepsM_bd (durable ws) ⟨zeros (60 * 16), []⟩
  obtain ⟨m, hm⟩ : ∃ m, stepsM ⟨zeros (60 * 16), []⟩ (durable ws) = m := ⟨_, rfl⟩
  rw [hm] at hrun hbd hlaw0
  obtain ⟨km, lm⟩ := m
  simp only [zeros_size, List.length_nil] at hbd hlaw0
  have hkm : km.size < 2 ^ 40 := by omega
  have hlm : lm.length + 1 < 2 ^ 40 := by omega
  have hfal := specFallen_spec km lm 0 hkm (by omega)
  have hfb := fallM_bd ⟨km, lm⟩ 0
  obtain ⟨x, hx⟩ : ∃ x, fallM ⟨km, lm⟩ 0 = x := ⟨_, rfl⟩
  rw [hx] at hfal hfb hlaw0
  obtain ⟨kx, lx⟩ := x
  simp only at hfb
  have hlaw : ∀ i (hi : i < ws.length), 0 ≤ ws[i].At → ws[i].At < 120 → ws[i].Word.size = 8 → (∀ k (hk : k < ws.length), i < k → ws[k].At ≠ ws[i].At) → wordM ⟨kx, lx⟩ ws[i].At = ws[i].Word := fun i hi h0 h1 h2 h3 => hlaw0 i hi h0 (by omega) h2 h3
  have hstp := runStep_spec km lm ⟨3, 0, ByteArray.empty⟩ hkm hlm
  rw [stepM_fence] at hstp
  have hfen := specFence_spec km lm hkm (by omega)
  have hfeb := fenceM_bd ⟨km, lm⟩
  obtain ⟨y, hy⟩ : ∃ y, fenceM ⟨km, lm⟩ = y := ⟨_, rfl⟩
  rw [hy] at hstp hfen hfeb
  obtain ⟨ky, ly⟩ := y
  simp only at hfeb
  clear hlaw0 hx hm hy
  refine Spec.intro Try.func6 rfl rfl Try.ntmps6 rfl (by simp) ?_
  refine DW.seq ?_
  refine DW.reg (by simp (maxSteps := 200000) (disch := first | omega | (simp; done) | fail) [wrapI, leT, leF, ltT, ltF, eqF, nleT, nleF, nltT, nltF, rD_len_Cell, rD_len_Write]; rfl) ?_
  refine DW.seq ?_
  refine DW.seq ?_
  refine DW.regs ?_
  refine RegO.opN 1 (by simp (maxSteps := 200000) (disch := first | omega | (simp; done) | fail) [wrapI, leT, leF, ltT, ltF, eqF, nleT, nleF, nltT, nltF, rD_len_Cell, rD_len_Write]; rfl) ?_
  refine RegO.step rfl (OpStep.callA rfl (by simp (maxSteps := 200000) (disch := first | omega | (simp; done) | fail) [wrapI, leT, leF, ltT, ltF, eqF, nleT, nleF, nltT, nltF, rD_len_Cell, rD_len_Write]; exact ⟨rfl, rfl⟩) (by simp (maxSteps := 200000) (disch := first | omega | (simp; done) | fail) [wrapI, leT, leF, ltT, ltF, eqF, nleT, nleF, nltT, nltF, rD_len_Cell, rD_len_Write]; rfl) (by exact big_spec code) (by simp) (by simp (maxSteps := 200000) (disch := first | omega | (simp; done) | fail) [wrapI, leT, leF, ltT, ltF, eqF, nleT, nleF, nltT, nltF, rD_len_Cell, rD_len_Write]; rfl)) ?_
  refine RegO.nil ?_
  refine DW.condB (by simp (maxSteps := 200000) (disch := first | omega | (simp; done) | fail) [wrapI, leT, leF, ltT, ltF, eqF, nleT, nleF, nltT, nltF, rD_len_Cell, rD_len_Write]; exact rfl) (fun hc0 => ?_) (fun hc0 => ?_)
  · skip
    refine DW.seq ?_
    refine DW.reg (by simp (maxSteps := 200000) (disch := first | omega | (simp; done) | fail) [wrapI, leT, leF, ltT, ltF, eqF, nleT, nleF, nltT, nltF, rD_len_Cell, rD_len_Write]; rfl) ?_
    refine DW.ret ?_
    simp [Try.results6]
  · skip
    refine DW.skip ?_
    refine DW.seq ?_
    refine DW.regs ?_
    refine RegO.opN 1 (by simp (maxSteps := 200000) (disch := first | omega | (simp; done) | fail) [wrapI, leT, leF, ltT, ltF, eqF, nleT, nleF, nltT, nltF, rD_len_Cell, rD_len_Write]; rfl) ?_
    refine RegO.step rfl (OpStep.callA rfl (by simp (maxSteps := 200000) (disch := first | omega | (simp; done) | fail) [wrapI, leT, leF, ltT, ltF, eqF, nleT, nleF, nltT, nltF, rD_len_Cell, rD_len_Write]; exact ⟨rfl, rfl⟩) (by simp (maxSteps := 200000) (disch := first | omega | (simp; done) | fail) [wrapI, leT, leF, ltT, ltF, eqF, nleT, nleF, nltT, nltF, rD_len_Cell, rD_len_Write]; rfl) (by exact hdraw) (by simp) (by simp (maxSteps := 200000) (disch := first | omega | (simp; done) | fail) [wrapI, leT, leF, ltT, ltF, eqF, nleT, nleF, nltT, nltF, rD_len_Cell, rD_len_Write]; rfl)) ?_
    refine RegO.opN 1 (by simp (maxSteps := 200000) (disch := first | omega | (simp; done) | fail) [wrapI, leT, leF, ltT, ltF, eqF, nleT, nleF, nltT, nltF, rD_len_Cell, rD_len_Write]; rfl) ?_
    refine RegO.nil ?_
    refine DW.norm [(3, _)] [(14, _)] [] (by simp [rD_len_Cell, rD_len_Write]; rfl) (by simp [rD_len_Cell, rD_len_Write]; rfl) (by simp [rD_len_Cell, rD_len_Write]) (by rfl) ?_
    refine DW.seq ?_
    refine DW.regs ?_
    refine RegO.opN 1 (by simp (maxSteps := 200000) (disch := first | omega | (simp; done) | fail) [wrapI, leT, leF, ltT, ltF, eqF, nleT, nleF, nltT, nltF, rD_len_Cell, rD_len_Write]; rfl) ?_
    refine RegO.step rfl (OpStep.callA rfl (by simp (maxSteps := 200000) (disch := first | omega | (simp; done) | fail) [wrapI, leT, leF, ltT, ltF, eqF, nleT, nleF, nltT, nltF, rD_len_Cell, rD_len_Write]; exact ⟨rfl, rfl⟩) (by simp (maxSteps := 200000) (disch := first | omega | (simp; done) | fail) [wrapI, leT, leF, ltT, ltF, eqF, nleT, nleF, nltT, nltF, rD_len_Cell, rD_len_Write]; rfl) (by exact implDurable_spec ws hl) (by simp) (by simp (maxSteps := 200000) (disch := first | omega | (simp; done) | fail) [wrapI, leT, leF, ltT, ltF, eqF, nleT, nleF, nltT, nltF, rD_len_Cell, rD_len_Write]; rfl)) ?_
    refine RegO.opN 1 (by simp (maxSteps := 200000) (disch := first | omega | (simp; done) | fail) [wrapI, leT, leF, ltT, ltF, eqF, nleT, nleF, nltT, nltF, rD_len_Cell, rD_len_Write]; rfl) ?_
    refine RegO.nil ?_
    refine DW.norm [(3, _), (4, _)] [(14, _), (16, _)] [] (by simp [rD_len_Cell, rD_len_Write]; exact ⟨rfl, rfl⟩) (by simp [rD_len_Cell, rD_len_Write]; exact ⟨rfl, rfl⟩) (by simp [rD_len_Cell, rD_len_Write]) (by rfl) ?_
    refine DW.seq ?_
    refine DW.seq ?_
    refine DW.regs ?_
    refine RegO.opN 2 (by simp (maxSteps := 200000) (disch := first | omega | (simp; done) | fail) [wrapI, leT, leF, ltT, ltF, eqF, nleT, nleF, nltT, nltF, rD_len_Cell, rD_len_Write]; rfl) ?_
    refine RegO.step rfl (OpStep.callA rfl (by simp (maxSteps := 200000) (disch := first | omega | (simp; done) | fail) [wrapI, leT, leF, ltT, ltF, eqF, nleT, nleF, nltT, nltF, rD_len_Cell, rD_len_Write]; exact ⟨rfl, rfl⟩) (by simp (maxSteps := 200000) (disch := first | omega | (simp; done) | fail) [wrapI, leT, leF, ltT, ltF, eqF, nleT, nleF, nltT, nltF, rD_len_Cell, rD_len_Write]; rfl) (by exact specDurable_spec ws hl) (by simp) (by simp (maxSteps := 200000) (disch := first | omega | (simp; done) | fail) [wrapI, leT, leF, ltT, ltF, eqF, nleT, nleF, nltT, nltF, rD_len_Cell, rD_len_Write]; rfl)) ?_
    refine RegO.step rfl (OpStep.callA rfl (by simp (maxSteps := 200000) (disch := first | omega | (simp; done) | fail) [wrapI, leT, leF, ltT, ltF, eqF, nleT, nleF, nltT, nltF, rD_len_Cell, rD_len_Write]; exact ⟨rfl, rfl⟩) (by simp (maxSteps := 200000) (disch := first | omega | (simp; done) | fail) [wrapI, leT, leF, ltT, ltF, eqF, nleT, nleF, nltT, nltF, rD_len_Cell, rD_len_Write]; rfl) (by exact sameSteps_spec (durable ws) hdl) (by simp) (by simp (maxSteps := 200000) (disch := first | omega | (simp; done) | fail) [wrapI, leT, leF, ltT, ltF, eqF, nleT, nleF, nltT, nltF, rD_len_Cell, rD_len_Write]; rfl)) ?_
    refine RegO.opN 1 (by simp (maxSteps := 200000) (disch := first | omega | (simp; done) | fail) [wrapI, leT, leF, ltT, ltF, eqF, nleT, nleF, nltT, nltF, rD_len_Cell, rD_len_Write]; rfl) ?_
    refine RegO.nil ?_
    refine DW.norm [(3, _), (4, _), (21, _)] [(14, _), (16, _)] [] (by simp [rD_len_Cell, rD_len_Write]; exact ⟨rfl, rfl, rfl⟩) (by simp [rD_len_Cell, rD_len_Write]; exact ⟨rfl, rfl⟩) (by simp [rD_len_Cell, rD_len_Write]) (by rfl) ?_
    refine DW.condF (by simp (maxSteps := 200000) (disch := first | omega | (simp; done) | fail) [wrapI, leT, leF, ltT, ltF, eqF, nleT, nleF, nltT, nltF, rD_len_Cell, rD_len_Write]) ?_
    refine DW.skip ?_
    refine DW.seq ?_
    refine DW.regs ?_
    refine RegO.step rfl (OpStep.callA rfl (by simp [rD_len_Cell, rD_len_Write]; exact ⟨rfl, rfl⟩) (by simp [rD_len_Cell, rD_len_Write]; rfl) (by exact specMemoryNew_spec 60 (by omega)) (by simp) (by simp [rD_len_Cell, rD_len_Write]; rfl)) ?_
    refine RegO.opN 1 (by simp [rD_len_Cell, rD_len_Write]; rfl) ?_
    refine RegO.step rfl (OpStep.callA rfl (by simp [rD_len_Cell, rD_len_Write]; exact ⟨rfl, rfl⟩) (by simp [rD_len_Cell, rD_len_Write]; rfl) (by exact hrun) (by simp) (by simp [rD_len_Cell, rD_len_Write]; rfl)) ?_
    refine RegO.opN 2 (by simp [rD_len_Cell, rD_len_Write]; rfl) ?_
    refine RegO.nil ?_
    refine DW.norm [(3, _), (4, _), (5, _)] [(14, _), (16, _), (5, _)] [] (by simp [rD_len_Cell, rD_len_Write]; exact ⟨rfl, rfl, rfl⟩) (by simp [rD_len_Cell, rD_len_Write]; exact ⟨rfl, rfl, rfl⟩) (by simp [rD_len_Cell, rD_len_Write]) (by rfl) ?_
    refine DW.seq ?_
    refine DW.regs ?_
    refine RegO.opN 1 (by simp [rD_len_Cell, rD_len_Write]; rfl) ?_
    refine RegO.step rfl (OpStep.callA rfl (by simp [rD_len_Cell, rD_len_Write]; exact ⟨rfl, rfl⟩) (by simp [rD_len_Cell, rD_len_Write]; rfl) (by exact hfal) (by simp) (by simp [rD_len_Cell, rD_len_Write]; rfl)) ?_
    refine RegO.opN 2 (by simp [rD_len_Cell, rD_len_Write]; rfl) ?_
    refine RegO.nil ?_
    refine DW.norm [(3, _), (4, _), (5, _), (6, _)] [(14, _), (16, _), (5, _), (6, _)] [] (by simp [rD_len_Cell, rD_len_Write]; exact ⟨rfl, rfl, rfl, rfl⟩) (by simp [rD_len_Cell, rD_len_Write]; exact ⟨rfl, rfl, rfl, rfl⟩) (by simp [rD_len_Cell, rD_len_Write]) (by rfl) ?_
    refine DW.seq ?_
    refine DW.regs ?_
    refine RegO.opN 1 (by simp (maxSteps := 200000) (disch := first | omega | (simp; done) | fail) [wrapI, leT, leF, ltT, ltF, eqF, nleT, nleF, nltT, nltF, rD_len_Cell, rD_len_Write]; rfl) ?_
    refine RegO.step rfl (OpStep.callA rfl (by simp (maxSteps := 200000) (disch := first | omega | (simp; done) | fail) [wrapI, leT, leF, ltT, ltF, eqF, nleT, nleF, nltT, nltF, rD_len_Cell, rD_len_Write]; exact ⟨rfl, rfl⟩) (by simp (maxSteps := 200000) (disch := first | omega | (simp; done) | fail) [wrapI, leT, leF, ltT, ltF, eqF, nleT, nleF, nltT, nltF, rD_len_Cell, rD_len_Write]; rfl) (by exact implLinesOf_spec ws hl) (by simp) (by simp (maxSteps := 200000) (disch := first | omega | (simp; done) | fail) [wrapI, leT, leF, ltT, ltF, eqF, nleT, nleF, nltT, nltF, rD_len_Cell, rD_len_Write]; rfl)) ?_
    refine RegO.opN 1 (by simp (maxSteps := 200000) (disch := first | omega | (simp; done) | fail) [wrapI, leT, leF, ltT, ltF, eqF, nleT, nleF, nltT, nltF, rD_len_Cell, rD_len_Write]; rfl) ?_
    refine RegO.nil ?_
    refine DW.norm [(3, _), (4, _), (5, _), (6, _), (7, _)] [(14, _), (16, _), (5, _), (6, _), (28, _)] [] (by simp [rD_len_Cell, rD_len_Write]; exact ⟨rfl, rfl, rfl, rfl, rfl⟩) (by simp [rD_len_Cell, rD_len_Write]; exact ⟨rfl, rfl, rfl, rfl, rfl⟩) (by simp [rD_len_Cell, rD_len_Write]) (by rfl) ?_
    refine DW.seq ?_
    refine DW.seq ?_
    refine DW.reg (by simp (maxSteps := 200000) (disch := first | omega | (simp; done) | fail) [wrapI, leT, leF, ltT, ltF, eqF, nleT, nleF, nltT, nltF, rD_len_Cell, rD_len_Write]; rfl) ?_
    refine DW.block ?_
    refine DW.loopS (α := Nat) (fun i => i ≤ ws.length) (fun i => ws.length - i) (fun i => [(8, vi i)]) (fun i => []) [(3, _), (4, _), (5, _), (6, _), (7, _)] [(14, _), (16, _), (5, _), (6, _), (28, _)] [] 0 (Nat.zero_le _) (by simp; exact ⟨rfl, rfl, rfl, rfl, rfl⟩) (by simp; exact ⟨rfl, rfl, rfl, rfl, rfl⟩) (by simp) (by rfl) ?_
    intro i hi
    refine DW.seq ?_
    refine DW.seq ?_
    refine DW.reg (by simp (maxSteps := 200000) (disch := first | omega | (simp; done) | fail) [wrapI, leT, leF, ltT, ltF, eqF, nleT, nleF, nltT, nltF, rD_len_Cell, rD_len_Write]; rfl) ?_
    refine DW.condB (by simp (maxSteps := 200000) (disch := first | omega | (simp; done) | fail) [wrapI, leT, leF, ltT, ltF, eqF, nleT, nleF, nltT, nltF, rD_len_Cell, rD_len_Write]; exact rfl) (fun hc2 => ?_) (fun hc2 => ?_)
    · have hlt : i < ws.length := by simpa using hc2
      have hlt1 : (i : Int) < ws.length := by omega
      have hw := wr ((i : Int) + 1) (by omega) (by omega)
      have hgA := rD_getA ws i hlt
      have hgW := rD_getW ws i hlt
      have hlaw2 := hlaw i hlt
      generalize hwi : ws[i] = w at hgA hgW hlaw2
      refine DW.skip ?_
      refine DW.seq ?_
      refine DW.block ?_
      refine DW.seq ?_
      refine DW.reg (by simp (maxSteps := 200000) (disch := first | omega | (simp; done) | fail) [wrapI, leT, leF, ltT, ltF, eqF, nleT, nleF, nltT, nltF, rD_len_Cell, rD_len_Write, hlt1, hw, hgA, hgW]; rfl) ?_
      refine DW.seq ?_
      refine DW.seq ?_
      refine DW.reg (by simp (maxSteps := 200000) (disch := first | omega | (simp; done) | fail) [wrapI, leT, leF, ltT, ltF, eqF, nleT, nleF, nltT, nltF, rD_len_Cell, rD_len_Write, hlt1, hw, hgA, hgW]; rfl) ?_
      refine DW.block ?_
      refine DW.loopS (α := Nat × Bool) (fun a => i < a.1 ∧ a.1 ≤ ws.length ∧ (a.2 = true → ∀ k (hk : k < ws.length), i < k → k < a.1 → ws[k].At ≠ w.At)) (fun a => ws.length - a.1) (fun a => [(10, vi a.1), (9, vb a.2)]) (fun a => []) [(3, _), (4, _), (5, _), (6, _), (7, _), (8, _)] [(14, _), (16, _), (5, _), (6, _), (28, _)] [] (i + 1, true) (⟨Nat.lt_succ_self _, hlt, fun _ k hk h1 h2 => by omega⟩) (by simp; exact ⟨rfl, rfl, rfl, rfl, rfl, rfl⟩) (by simp; exact ⟨rfl, rfl, rfl, rfl, rfl⟩) (by simp) (by rfl) ?_
      rintro ⟨j, b⟩ ⟨hj0, hj1, hjb⟩
      simp only at hj0 hj1 hjb ⊢
      refine DW.seq ?_
      refine DW.seq ?_
      refine DW.reg (by simp (maxSteps := 200000) (disch := first | omega | (simp; done) | fail) [wrapI, leT, leF, ltT, ltF, eqF, nleT, nleF, nltT, nltF, rD_len_Cell, rD_len_Write, hlt1, hw, hgA, hgW]; rfl) ?_
      refine DW.condB (by simp (maxSteps := 200000) (disch := first | omega | (simp; done) | fail) [wrapI, leT, leF, ltT, ltF, eqF, nleT, nleF, nltT, nltF, rD_len_Cell, rD_len_Write, hlt1, hw, hgA, hgW]; exact rfl) (fun hc3 => ?_) (fun hc3 => ?_)
      · have hjt : j < ws.length := by simpa using hc3
        have hjt1 : (j : Int) < ws.length := by omega
        have hwj := wr ((j : Int) + 1) (by omega) (by omega)
        have hgj := rD_getA ws j hjt
        refine DW.skip ?_
        refine DW.seq ?_
        refine DW.block ?_
        cases b
        · skip
          refine DW.drawn mixed (by kernel_rfl) ?_
          refine RegD.addN 15 (by simp [rD_len_Cell, rD_len_Write, hlt1, hw, hgA, hgW, hjt1, hwj, hgj]; (first | (simp (disch := omega) only [wrapI, ltF, if_false]; done) | (simp (disch := omega) only [wrapI, ltF, if_false]; first | exact ⟨rfl, rfl⟩ | rfl) | skip); (first | done | exact ⟨rfl, rfl⟩ | rfl)) ?_
          refine RegD.nil ⟨by kernel_rfl, ?_⟩
          refine DW.norm [(3, _), (4, _), (5, _), (6, _), (7, _), (8, _), (9, _), (10, _)] [(14, _), (16, _), (5, _), (6, _), (28, _)] [] (by simp [rD_len_Cell, rD_len_Write, hlt1, hw, hgA, hgW, hjt1, hwj, hgj]; exact ⟨rfl, rfl, rfl, rfl, rfl, rfl, rfl, rfl⟩) (by simp [rD_len_Cell, rD_len_Write, hlt1, hw, hgA, hgW, hjt1, hwj, hgj]; exact ⟨rfl, rfl, rfl, rfl, rfl⟩) (by simp [rD_len_Cell, rD_len_Write, hlt1, hw, hgA, hgW, hjt1, hwj, hgj]) (by rfl) ?_
          refine DW.reg (by simp (maxSteps := 200000) (disch := first | omega | (simp; done) | fail) [wrapI, leT, leF, ltT, ltF, eqF, nleT, nleF, nltT, nltF, rD_len_Cell, rD_len_Write, hlt1, hw, hgA, hgW, hjt1, hwj, hgj]; rfl) ?_
          exact ⟨(j + 1, false), ⟨by simp only; omega, hjt, fun h => by cases h⟩, by simp only; omega, by simp [hwj], by simp, by simp, by rfl⟩
        · skip
          refine DW.drawn mixed (by kernel_rfl) ?_
          refine RegD.addN 15 (by simp [rD_len_Cell, rD_len_Write, hlt1, hw, hgA, hgW, hjt1, hwj, hgj]; (first | (simp (disch := omega) only [wrapI, ltF, if_false]; done) | (simp (disch := omega) only [wrapI, ltF, if_false]; first | exact ⟨rfl, rfl⟩ | rfl) | skip); (first | done | exact ⟨rfl, rfl⟩ | rfl)) ?_
          refine RegD.nil ⟨by kernel_rfl, ?_⟩
          refine DW.norm [(3, _), (4, _), (5, _), (6, _), (7, _), (8, _), (9, _), (10, _)] [(14, _), (16, _), (5, _), (6, _), (28, _)] [] (by simp [rD_len_Cell, rD_len_Write, hlt1, hw, hgA, hgW, hjt1, hwj, hgj]; exact ⟨rfl, rfl, rfl, rfl, rfl, rfl, rfl, rfl⟩) (by simp [rD_len_Cell, rD_len_Write, hlt1, hw, hgA, hgW, hjt1, hwj, hgj]; exact ⟨rfl, rfl, rfl, rfl, rfl⟩) (by simp [rD_len_Cell, rD_len_Write, hlt1, hw, hgA, hgW, hjt1, hwj, hgj]) (by rfl) ?_
          refine DW.reg (by simp (maxSteps := 200000) (disch := first | omega | (simp; done) | fail) [wrapI, leT, leF, ltT, ltF, eqF, nleT, nleF, nltT, nltF, rD_len_Cell, rD_len_Write, hlt1, hw, hgA, hgW, hjt1, hwj, hgj]; rfl) ?_
          refine ⟨(j + 1, ws[j].At != w.At), ⟨by simp only; omega, hjt, fun h k hk h1 h2 => ?_⟩, by simp only; omega, by simp [hwj], by simp, by simp, by rfl⟩
          rcases Nat.lt_or_ge k j with h3 | h3
          · exact hjb rfl k hk h1 h3
          · have : k = j := by simp only at h2; omega
            subst this
            simpa using h
      · have hjl : j = ws.length := by
          have : ¬ j < ws.length := by simpa using hc3
          omega
        subst hjl
        refine DW.exit ?_
        refine DW.seq ?_
        have hsp : ((b) = false) ∨ ((b) = true ∧ (decide (0 ≤ w.At)) = false) ∨ ((b) = true ∧ (decide (0 ≤ w.At)) = true ∧ (decide (w.At < 120)) = false) ∨ ((b) = true ∧ (decide (0 ≤ w.At)) = true ∧ (decide (w.At < 120)) = true ∧ (((w.Word.size : Int) == 8)) = false) ∨ ((b) = true ∧ (decide (0 ≤ w.At)) = true ∧ (decide (w.At < 120)) = true ∧ (((w.Word.size : Int) == 8)) = true) := by
          cases (b) <;> cases (decide (0 ≤ w.At)) <;> cases (decide (w.At < 120)) <;> cases (((w.Word.size : Int) == 8)) <;> simp
        rcases hsp with e0 | ⟨e0, e1⟩ | ⟨e0, e1, e2⟩ | ⟨e0, e1, e2, e3⟩ | ⟨e0, e1, e2, e3⟩
        · skip
          refine DW.drawn mixed (by kernel_rfl) ?_
          refine RegD.addN 41 (by simp [rD_len_Cell, rD_len_Write, hlt1, hw, hgA, hgW, e0, ge_iff_le]; (first | (simp (disch := omega) only [wrapI, ltF, if_false]; done) | (simp (disch := omega) only [wrapI, ltF, if_false]; first | exact ⟨rfl, rfl⟩ | rfl) | skip); (first | done | exact ⟨rfl, rfl⟩ | rfl)) ?_
          refine RegD.nil ⟨by kernel_rfl, ?_⟩
          refine DW.norm [(3, _), (4, _), (5, _), (6, _), (7, _), (8, _), (97, _)] [(14, _), (16, _), (5, _), (6, _), (28, _)] [] (by simp [rD_len_Cell, rD_len_Write, hlt1, hw, hgA, hgW, e0, ge_iff_le]; exact ⟨rfl, rfl, rfl, rfl, rfl, rfl, rfl⟩) (by simp [rD_len_Cell, rD_len_Write, hlt1, hw, hgA, hgW, e0, ge_iff_le]; exact ⟨rfl, rfl, rfl, rfl, rfl⟩) (by simp [rD_len_Cell, rD_len_Write, hlt1, hw, hgA, hgW, e0, ge_iff_le]) (by rfl) ?_
          refine DW.condF (by simp (maxSteps := 200000) (disch := first | omega | (simp; done) | fail) [wrapI, leT, leF, ltT, ltF, eqF, nleT, nleF, nltT, nltF, rD_len_Cell, rD_len_Write, hlt1, hw, hgA, hgW, e0, ge_iff_le]) ?_
          refine DW.skip ?_
          refine DW.reg (by simp (maxSteps := 200000) (disch := first | omega | (simp; done) | fail) [wrapI, leT, leF, ltT, ltF, eqF, nleT, nleF, nltT, nltF, rD_len_Cell, rD_len_Write, hlt1, hw, hgA, hgW, e0, ge_iff_le]; rfl) ?_
          exact ⟨i + 1, hlt, by omega, by simp [hw], by simp, by simp, by rfl⟩
        · skip
          refine DW.drawn mixed (by kernel_rfl) ?_
          refine RegD.addN 41 (by simp [rD_len_Cell, rD_len_Write, hlt1, hw, hgA, hgW, e0, e1, ge_iff_le]; (first | (simp (disch := omega) only [wrapI, ltF, if_false]; done) | (simp (disch := omega) only [wrapI, ltF, if_false]; first | exact ⟨rfl, rfl⟩ | rfl) | skip); (first | done | exact ⟨rfl, rfl⟩ | rfl)) ?_
          refine RegD.nil ⟨by kernel_rfl, ?_⟩
          refine DW.norm [(3, _), (4, _), (5, _), (6, _), (7, _), (8, _), (97, _)] [(14, _), (16, _), (5, _), (6, _), (28, _)] [] (by simp [rD_len_Cell, rD_len_Write, hlt1, hw, hgA, hgW, e0, e1, ge_iff_le]; exact ⟨rfl, rfl, rfl, rfl, rfl, rfl, rfl⟩) (by simp [rD_len_Cell, rD_len_Write, hlt1, hw, hgA, hgW, e0, e1, ge_iff_le]; exact ⟨rfl, rfl, rfl, rfl, rfl⟩) (by simp [rD_len_Cell, rD_len_Write, hlt1, hw, hgA, hgW, e0, e1, ge_iff_le]) (by rfl) ?_
          refine DW.condF (by simp (maxSteps := 200000) (disch := first | omega | (simp; done) | fail) [wrapI, leT, leF, ltT, ltF, eqF, nleT, nleF, nltT, nltF, rD_len_Cell, rD_len_Write, hlt1, hw, hgA, hgW, e0, e1, ge_iff_le]) ?_
          refine DW.skip ?_
          refine DW.reg (by simp (maxSteps := 200000) (disch := first | omega | (simp; done) | fail) [wrapI, leT, leF, ltT, ltF, eqF, nleT, nleF, nltT, nltF, rD_len_Cell, rD_len_Write, hlt1, hw, hgA, hgW, e0, e1, ge_iff_le]; rfl) ?_
          exact ⟨i + 1, hlt, by omega, by simp [hw], by simp, by simp, by rfl⟩
        · skip
          refine DW.drawn mixed (by kernel_rfl) ?_
          refine RegD.addN 41 (by simp [rD_len_Cell, rD_len_Write, hlt1, hw, hgA, hgW, e0, e1, e2, ge_iff_le]; (first | (simp (disch := omega) only [wrapI, ltF, if_false]; done) | (simp (disch := omega) only [wrapI, ltF, if_false]; first | exact ⟨rfl, rfl⟩ | rfl) | skip); (first | done | exact ⟨rfl, rfl⟩ | rfl)) ?_
          refine RegD.nil ⟨by kernel_rfl, ?_⟩
          refine DW.norm [(3, _), (4, _), (5, _), (6, _), (7, _), (8, _), (97, _)] [(14, _), (16, _), (5, _), (6, _), (28, _)] [] (by simp [rD_len_Cell, rD_len_Write, hlt1, hw, hgA, hgW, e0, e1, e2, ge_iff_le]; exact ⟨rfl, rfl, rfl, rfl, rfl, rfl, rfl⟩) (by simp [rD_len_Cell, rD_len_Write, hlt1, hw, hgA, hgW, e0, e1, e2, ge_iff_le]; exact ⟨rfl, rfl, rfl, rfl, rfl⟩) (by simp [rD_len_Cell, rD_len_Write, hlt1, hw, hgA, hgW, e0, e1, e2, ge_iff_le]) (by rfl) ?_
          refine DW.condF (by simp (maxSteps := 200000) (disch := first | omega | (simp; done) | fail) [wrapI, leT, leF, ltT, ltF, eqF, nleT, nleF, nltT, nltF, rD_len_Cell, rD_len_Write, hlt1, hw, hgA, hgW, e0, e1, e2, ge_iff_le]) ?_
          refine DW.skip ?_
          refine DW.reg (by simp (maxSteps := 200000) (disch := first | omega | (simp; done) | fail) [wrapI, leT, leF, ltT, ltF, eqF, nleT, nleF, nltT, nltF, rD_len_Cell, rD_len_Write, hlt1, hw, hgA, hgW, e0, e1, e2, ge_iff_le]; rfl) ?_
          exact ⟨i + 1, hlt, by omega, by simp [hw], by simp, by simp, by rfl⟩
        · skip
          refine DW.drawn mixed (by kernel_rfl) ?_
          refine RegD.addN 41 (by simp [rD_len_Cell, rD_len_Write, hlt1, hw, hgA, hgW, e0, e1, e2, e3, ge_iff_le]; (first | (simp (disch := omega) only [wrapI, ltF, if_false]; done) | (simp (disch := omega) only [wrapI, ltF, if_false]; first | exact ⟨rfl, rfl⟩ | rfl) | skip); (first | done | exact ⟨rfl, rfl⟩ | rfl)) ?_
          refine RegD.nil ⟨by kernel_rfl, ?_⟩
          refine DW.norm [(3, _), (4, _), (5, _), (6, _), (7, _), (8, _), (97, _)] [(14, _), (16, _), (5, _), (6, _), (28, _)] [] (by simp [rD_len_Cell, rD_len_Write, hlt1, hw, hgA, hgW, e0, e1, e2, e3, ge_iff_le]; exact ⟨rfl, rfl, rfl, rfl, rfl, rfl, rfl⟩) (by simp [rD_len_Cell, rD_len_Write, hlt1, hw, hgA, hgW, e0, e1, e2, e3, ge_iff_le]; exact ⟨rfl, rfl, rfl, rfl, rfl⟩) (by simp [rD_len_Cell, rD_len_Write, hlt1, hw, hgA, hgW, e0, e1, e2, e3, ge_iff_le]) (by rfl) ?_
          refine DW.condF (by simp (maxSteps := 200000) (disch := first | omega | (simp; done) | fail) [wrapI, leT, leF, ltT, ltF, eqF, nleT, nleF, nltT, nltF, rD_len_Cell, rD_len_Write, hlt1, hw, hgA, hgW, e0, e1, e2, e3, ge_iff_le]) ?_
          refine DW.skip ?_
          refine DW.reg (by simp (maxSteps := 200000) (disch := first | omega | (simp; done) | fail) [wrapI, leT, leF, ltT, ltF, eqF, nleT, nleF, nltT, nltF, rD_len_Cell, rD_len_Write, hlt1, hw, hgA, hgW, e0, e1, e2, e3, ge_iff_le]; rfl) ?_
          exact ⟨i + 1, hlt, by omega, by simp [hw], by simp, by simp, by rfl⟩
        · have e3n : w.Word.size = 8 := by
            have : (w.Word.size : Int) = 8 := by simpa using e3
            omega
          have hwd := hlaw2 (by simpa using e1) (by simpa using e2) e3n (fun k hk h1 => hjb e0 k hk h1 hk)
          refine DW.drawn mixed (by kernel_rfl) ?_
          refine RegD.addN 33 (by simp [rD_len_Cell, rD_len_Write, hlt1, hw, hgA, hgW, e0, e1, e2, e3, hwd, ge_iff_le]; (first | (simp (disch := omega) only [wrapI, ltF, if_false]; done) | (simp (disch := omega) only [wrapI, ltF, if_false]; first | exact ⟨rfl, rfl⟩ | rfl) | skip); (first | done | exact ⟨rfl, rfl⟩ | rfl)) ?_
          refine RegD.cert (Cert.callA rfl (by simp [rD_len_Cell, rD_len_Write, hlt1, hw, hgA, hgW, e0, e1, e2, e3, hwd, ge_iff_le]) rfl (by decide) (by simp [rD_len_Cell, rD_len_Write, hlt1, hw, hgA, hgW, e0, e1, e2, e3, hwd, ge_iff_le]; exact ⟨rfl, rfl⟩) (by simp [rD_len_Cell, rD_len_Write, hlt1, hw, hgA, hgW, e0, e1, e2, e3, hwd, ge_iff_le]; rfl) (by exact specWordAt_spec ⟨kx, lx⟩ w.At (by simp only; omega) (by simp only; omega)) rfl (by simp) (by simp; rfl) rfl) ?_
          refine RegD.addN 7 (by simp [rD_len_Cell, rD_len_Write, hlt1, hw, hgA, hgW, e0, e1, e2, e3, hwd, ge_iff_le]; (first | (simp (disch := omega) only [wrapI, ltF, if_false]; done) | (simp (disch := omega) only [wrapI, ltF, if_false]; first | exact ⟨rfl, rfl⟩ | rfl) | skip); (first | done | exact ⟨rfl, rfl⟩ | rfl)) ?_
          refine RegD.nil ⟨by kernel_rfl, ?_⟩
          refine DW.norm [(3, _), (4, _), (5, _), (6, _), (7, _), (8, _), (97, _)] [(14, _), (16, _), (5, _), (6, _), (28, _)] [] (by simp [rD_len_Cell, rD_len_Write, hlt1, hw, hgA, hgW, e0, e1, e2, e3, hwd, ge_iff_le]; exact ⟨rfl, rfl, rfl, rfl, rfl, rfl, rfl⟩) (by simp [rD_len_Cell, rD_len_Write, hlt1, hw, hgA, hgW, e0, e1, e2, e3, hwd, ge_iff_le]; exact ⟨rfl, rfl, rfl, rfl, rfl⟩) (by simp [rD_len_Cell, rD_len_Write, hlt1, hw, hgA, hgW, e0, e1, e2, e3, hwd, ge_iff_le]) (by rfl) ?_
          refine DW.condF (by simp (maxSteps := 200000) (disch := first | omega | (simp; done) | fail) [wrapI, leT, leF, ltT, ltF, eqF, nleT, nleF, nltT, nltF, rD_len_Cell, rD_len_Write, hlt1, hw, hgA, hgW, e0, e1, e2, e3, hwd, ge_iff_le]) ?_
          refine DW.skip ?_
          refine DW.reg (by simp (maxSteps := 200000) (disch := first | omega | (simp; done) | fail) [wrapI, leT, leF, ltT, ltF, eqF, nleT, nleF, nltT, nltF, rD_len_Cell, rD_len_Write, hlt1, hw, hgA, hgW, e0, e1, e2, e3, hwd, ge_iff_le]; rfl) ?_
          exact ⟨i + 1, hlt, by omega, by simp [hw], by simp, by simp, by rfl⟩
    · skip
      refine DW.exit ?_
      refine DW.seq ?_
      by_cases h00 : ws.length = 0
      · have h01 : ((ws.length : Int) == 0) = true := by rw [beq_iff_eq]; omega
        refine DW.drawn mixed (by kernel_rfl) ?_
        refine RegD.addN 2 (by simp [rD_len_Cell, rD_len_Write, h01]; (first | (simp (disch := omega) only [wrapI, ltF, if_false]; done) | (simp (disch := omega) only [wrapI, ltF, if_false]; first | exact ⟨rfl, rfl⟩ | rfl) | skip); (first | done | exact ⟨rfl, rfl⟩ | rfl)) ?_
        refine RegD.cert (Cert.callHA rfl (by simp) rfl (by decide) (by simp [rD_len_Cell, rD_len_Write, h01]; exact ⟨rfl, rfl⟩) (by simp [rD_len_Cell, rD_len_Write, h01]; rfl) (by exact specLinesOf_spec ws hl) rfl (by simp) (by simp) (by simp; rfl) rfl) ?_
        refine RegD.cert (Cert.callA rfl (by simp) rfl (by decide) (by simp [rD_len_Cell, rD_len_Write, h01]; exact ⟨rfl, rfl⟩) (by simp [rD_len_Cell, rD_len_Write, h01]; rfl) (by exact sameInts_spec (linesOf ws) hll) rfl (by simp) (by simp; rfl) rfl) ?_
        refine RegD.addN 19 (by simp [rD_len_Cell, rD_len_Write, h01]; (first | (simp (disch := omega) only [wrapI, ltF, if_false]; done) | (simp (disch := omega) only [wrapI, ltF, if_false]; first | exact ⟨rfl, rfl⟩ | rfl) | skip); (first | done | exact ⟨rfl, rfl⟩ | rfl)) ?_
        refine RegD.cert (Cert.callHA rfl (by simp [rD_len_Cell, rD_len_Write, h01]) rfl (by decide) (by simp [rD_len_Cell, rD_len_Write, h01]; exact ⟨rfl, rfl⟩) (by simp [rD_len_Cell, rD_len_Write, h01]; rfl) (by exact hstp) rfl (by simp) (by simp) (by simp; rfl) rfl) ?_
        refine RegD.addN 2 (by simp [rD_len_Cell, rD_len_Write, h01]; (first | (simp (disch := omega) only [wrapI, ltF, if_false]; done) | (simp (disch := omega) only [wrapI, ltF, if_false]; first | exact ⟨rfl, rfl⟩ | rfl) | skip); (first | done | exact ⟨rfl, rfl⟩ | rfl)) ?_
        refine RegD.cert (Cert.callHA rfl (by simp [rD_len_Cell, rD_len_Write, h01]) rfl (by decide) (by simp [rD_len_Cell, rD_len_Write, h01]; exact ⟨rfl, rfl⟩) (by simp [rD_len_Cell, rD_len_Write, h01]; rfl) (by exact hfen) rfl (by simp) (by simp) (by simp; rfl) rfl) ?_
        refine RegD.addN 4 (by simp [rD_len_Cell, rD_len_Write, h01]; (first | (simp (disch := omega) only [wrapI, ltF, if_false]; done) | (simp (disch := omega) only [wrapI, ltF, if_false]; first | exact ⟨rfl, rfl⟩ | rfl) | skip); (first | done | exact ⟨rfl, rfl⟩ | rfl)) ?_
        refine RegD.cert (Cert.callHA rfl (by simp [rD_len_Cell, rD_len_Write, h01]) rfl (by decide) (by simp [rD_len_Cell, rD_len_Write, h01]; exact ⟨rfl, rfl⟩) (by simp [rD_len_Cell, rD_len_Write, h01]; rfl) (by exact specMemoryNew_spec 1 (by omega)) rfl (by simp) (by simp) (by simp; rfl) rfl) ?_
        refine RegD.cert (Cert.callHA rfl (by simp [rD_len_Cell, rD_len_Write, h01]) rfl (by decide) (by simp [rD_len_Cell, rD_len_Write, h01]; exact ⟨rfl, rfl⟩) (by simp [rD_len_Cell, rD_len_Write, h01]; rfl) (by exact hrun1) rfl (by simp) (by simp) (by simp; rfl) rfl) ?_
        refine RegD.addN 5 (by simp [rD_len_Cell, rD_len_Write, h01]; (first | (simp (disch := omega) only [wrapI, ltF, if_false]; done) | (simp (disch := omega) only [wrapI, ltF, if_false]; first | exact ⟨rfl, rfl⟩ | rfl) | skip); (first | done | exact ⟨rfl, rfl⟩ | rfl)) ?_
        refine RegD.nil ⟨by kernel_rfl, ?_⟩
        refine DW.ret ?_
        simp [Try.results6]
      · have h01 : ((ws.length : Int) == 0) = false := by rw [beq_eq_false_iff_ne]; omega
        have hdn : ((durable ws).length : Int) = (ws.length : Int) + (linesOf ws).length + 1 := by rw [durable_length ws h00]; omega
        have wq1 : IntKind.i64.wrap ((ws.length : Int) + (linesOf ws).length) = (ws.length : Int) + (linesOf ws).length := wr _ (by omega) (by omega)
        have wq2 : IntKind.i64.wrap ((ws.length : Int) + (linesOf ws).length + 1) = (ws.length : Int) + (linesOf ws).length + 1 := wr _ (by omega) (by omega)
        refine DW.drawn mixed (by kernel_rfl) ?_
        refine RegD.addN 2 (by simp [rD_len_Cell, rD_len_Write, h01, hdn, wq1, wq2]; (first | (simp (disch := omega) only [wrapI, ltF, if_false]; done) | (simp (disch := omega) only [wrapI, ltF, if_false]; first | exact ⟨rfl, rfl⟩ | rfl) | skip); (first | done | exact ⟨rfl, rfl⟩ | rfl)) ?_
        refine RegD.cert (Cert.callHA rfl (by simp) rfl (by decide) (by simp [rD_len_Cell, rD_len_Write, h01, hdn, wq1, wq2]; exact ⟨rfl, rfl⟩) (by simp [rD_len_Cell, rD_len_Write, h01, hdn, wq1, wq2]; rfl) (by exact specLinesOf_spec ws hl) rfl (by simp) (by simp) (by simp; rfl) rfl) ?_
        refine RegD.cert (Cert.callA rfl (by simp) rfl (by decide) (by simp [rD_len_Cell, rD_len_Write, h01, hdn, wq1, wq2]; exact ⟨rfl, rfl⟩) (by simp [rD_len_Cell, rD_len_Write, h01, hdn, wq1, wq2]; rfl) (by exact sameInts_spec (linesOf ws) hll) rfl (by simp) (by simp; rfl) rfl) ?_
        refine RegD.addN 19 (by simp [rD_len_Cell, rD_len_Write, h01, hdn, wq1, wq2]; (first | (simp (disch := omega) only [wrapI, ltF, if_false]; done) | (simp (disch := omega) only [wrapI, ltF, if_false]; first | exact ⟨rfl, rfl⟩ | rfl) | skip); (first | done | exact ⟨rfl, rfl⟩ | rfl)) ?_
        refine RegD.cert (Cert.callHA rfl (by simp [rD_len_Cell, rD_len_Write, h01, hdn, wq1, wq2]) rfl (by decide) (by simp [rD_len_Cell, rD_len_Write, h01, hdn, wq1, wq2]; exact ⟨rfl, rfl⟩) (by simp [rD_len_Cell, rD_len_Write, h01, hdn, wq1, wq2]; rfl) (by exact hstp) rfl (by simp) (by simp) (by simp; rfl) rfl) ?_
        refine RegD.addN 2 (by simp [rD_len_Cell, rD_len_Write, h01, hdn, wq1, wq2]; (first | (simp (disch := omega) only [wrapI, ltF, if_false]; done) | (simp (disch := omega) only [wrapI, ltF, if_false]; first | exact ⟨rfl, rfl⟩ | rfl) | skip); (first | done | exact ⟨rfl, rfl⟩ | rfl)) ?_
        refine RegD.cert (Cert.callHA rfl (by simp [rD_len_Cell, rD_len_Write, h01, hdn, wq1, wq2]) rfl (by decide) (by simp [rD_len_Cell, rD_len_Write, h01, hdn, wq1, wq2]; exact ⟨rfl, rfl⟩) (by simp [rD_len_Cell, rD_len_Write, h01, hdn, wq1, wq2]; rfl) (by exact hfen) rfl (by simp) (by simp) (by simp; rfl) rfl) ?_
        refine RegD.addN 4 (by simp [rD_len_Cell, rD_len_Write, h01, hdn, wq1, wq2]; (first | (simp (disch := omega) only [wrapI, ltF, if_false]; done) | (simp (disch := omega) only [wrapI, ltF, if_false]; first | exact ⟨rfl, rfl⟩ | rfl) | skip); (first | done | exact ⟨rfl, rfl⟩ | rfl)) ?_
        refine RegD.cert (Cert.callHA rfl (by simp [rD_len_Cell, rD_len_Write, h01, hdn, wq1, wq2]) rfl (by decide) (by simp [rD_len_Cell, rD_len_Write, h01, hdn, wq1, wq2]; exact ⟨rfl, rfl⟩) (by simp [rD_len_Cell, rD_len_Write, h01, hdn, wq1, wq2]; rfl) (by exact specMemoryNew_spec 1 (by omega)) rfl (by simp) (by simp) (by simp; rfl) rfl) ?_
        refine RegD.cert (Cert.callHA rfl (by simp [rD_len_Cell, rD_len_Write, h01, hdn, wq1, wq2]) rfl (by decide) (by simp [rD_len_Cell, rD_len_Write, h01, hdn, wq1, wq2]; exact ⟨rfl, rfl⟩) (by simp [rD_len_Cell, rD_len_Write, h01, hdn, wq1, wq2]; rfl) (by exact hrun1) rfl (by simp) (by simp) (by simp; rfl) rfl) ?_
        refine RegD.addN 5 (by simp [rD_len_Cell, rD_len_Write, h01, hdn, wq1, wq2]; (first | (simp (disch := omega) only [wrapI, ltF, if_false]; done) | (simp (disch := omega) only [wrapI, ltF, if_false]; first | exact ⟨rfl, rfl⟩ | rfl) | skip); (first | done | exact ⟨rfl, rfl⟩ | rfl)) ?_
        refine RegD.nil ⟨by kernel_rfl, ?_⟩
        refine DW.ret ?_
        simp [Try.results6]
end Go.Proofs.Ytjjdjkkhhcbogaa.DM
