import Derived.Test.YtjjdjkkhhcbogaaFV4
namespace Go.Proofs.Ytjjdjkkhhcbogaa.DM
set_option linter.unusedVariables false
set_option linter.unusedSimpArgs false
set_option maxRecDepth 4000
set_option maxHeartbeats 8000000
@[simp] theorem durNR_take (ws : List Write) (i : Nat) : (rD (durN ws i)).take ((durN ws i).length * 3) = rD (durN ws i) := rD_take_Step _
theorem specDurableP_spec (ws : List Write) (hl : ws.length ≤ 2 ^ 36) (h0 : 0 < ws.length) : Spec Try.prog 40 [ra ws] [none] [dr (durable ws)] [ra ws] := by
  refine Spec.intro Try.func40 rfl rfl Try.ntmps40 rfl (by simp) ?_
  have h0n : ¬ (ws.length : Int) = 0 := by omega
  have h0m : ¬ ws.length = 0 := by omega
  have h0e : ¬ ws = [] := fun e => by rw [e] at h0; simp at h0
  have hln := linesOf_len ws
  refine DW.seq ?_
  refine DW.reg (by simp (maxSteps := 200000) (disch := first | omega | (simp; done) | fail) [wrapI, leT, leF, ltT, ltF, eqF, nleT, nleF, nltT, nltF]; rfl) ?_
  refine DW.seq ?_
  refine DW.reg (by simp (maxSteps := 200000) (disch := first | omega | (simp; done) | fail) [wrapI, leT, leF, ltT, ltF, eqF, nleT, nleF, nltT, nltF]; rfl) ?_
  refine DW.ghost (Ghost.nlRow 3 31 3 (by simp) (by simp)) ?_
  refine DW.seq ?_
  refine DW.seq ?_
  refine DW.reg (by simp (maxSteps := 200000) (disch := first | omega | (simp; done) | fail) [wrapI, leT, leF, ltT, ltF, eqF, nleT, nleF, nltT, nltF]; rfl) ?_
  refine DW.condF (by simp (maxSteps := 200000) (disch := first | omega | (simp; done) | fail) [wrapI, leT, leF, ltT, ltF, eqF, nleT, nleF, nltT, nltF, h0e]) ?_
  refine DW.skip ?_
  refine DW.seq ?_
  refine DW.seq ?_
  refine DW.reg (by simp (maxSteps := 200000) (disch := first | omega | (simp; done) | fail) [wrapI, leT, leF, ltT, ltF, eqF, nleT, nleF, nltT, nltF]; rfl) ?_
  refine DW.block ?_
  refine DW.loopS (α := Nat) (fun i => i ≤ ws.length) (fun i => ws.length - i) (fun i => [(4, vi i), (3, .v (.one (.sl 31 [] 0 (durN ws i).length)))]) (fun i => [(31, .ow () 3 (durN ws i).length (rD (durN ws i)))]) [(0, _)] [] [] 0 (by simp) (by simp [durN]; rfl) (by simp [durN]) (by simp) (by rfl) ?_
  intro i hi
  refine DW.seq ?_
  refine DW.seq ?_
  refine DW.reg (by simp (maxSteps := 200000) (disch := first | omega | (simp; done) | fail) [wrapI, leT, leF, ltT, ltF, eqF, nleT, nleF, nltT, nltF]; rfl) ?_
  refine DW.condB (by simp (maxSteps := 200000) (disch := first | omega | (simp; done) | fail) [wrapI, leT, leF, ltT, ltF, eqF, nleT, nleF, nltT, nltF]; exact rfl) (fun hc1 => ?_) (fun hc1 => ?_)
  · have hlt : i < ws.length := by simpa using hc1
    have hlt1 : (i : Int) < ws.length := by omega
    have hd := rR_drop_Write ws i hlt
    have hw := wr ((i : Int) + 1) (by omega) (by omega)
    have hR := durN_succ ws i hlt
    have hKl : (durN ws i).length = min i ws.length := durN_len ws i
    generalize ws[i] = c at hd hR
    generalize (durN ws i) = K at *
    have b1 : (K.length + 1) * 32 ≤ 140737488355328 := by omega
    have b2 : K.length + 1 ≤ 140737488355328 := by omega
    have b3 : K.length ≤ 140737488355327 := by omega
    have hT := rD_take_Step K
    have hTl := rD_len_Step K
    have hRl2 : (durN ws (i + 1)).length = K.length + 1 := by rw [hR]; simp
    have hR2 : rD (durN ws (i + 1)) = rD K ++ [T.sc (.int .i64 1), T.sc (.int .i64 c.At), T.sc (.string c.Word)] := by rw [hR, rD_append]; rfl
    clear hR
    refine DW.skip ?_
    refine DW.seq ?_
    refine DW.block ?_
    refine DW.drawn mixed (by kernel_rfl) ?_
    refine RegD.addN 12 (by simp [hlt1, hw, hd, b1, b2, b3, hT, hTl]; (first | (simp (disch := omega) only [wrapI, ltF, if_false]; done) | (simp (disch := omega) only [wrapI, ltF, if_false]; first | exact ⟨rfl, rfl⟩ | rfl) | skip); (first | done | exact ⟨rfl, rfl⟩ | rfl)) ?_
    refine RegD.cert (Cert.buildRo (rcs := [.sc (.int .i64 1), .sc (.int .i64 c.At), .sc (.string c.Word)]) rfl rfl rfl (by decide) (by simp; exact ⟨rfl, rfl⟩) (by simp; rfl) (by simp; rfl) (by rfl) (by decide) (by decide) (by simp [hlt1, hw, hd, b1, b2, b3, hT, hTl]; rfl) (by simp [hlt1, hw, hd, b1, b2, b3, hT, hTl]; rfl) (by rfl) (by simp)) ?_
    refine RegD.heavyF (by simp) (by simp [hlt1, hw, hd, b1, b2, b3, hT, hTl]; rfl) ?_
    refine RegD.addN 1 (by simp [hlt1, hw, hd, b1, b2, b3, hT, hTl]; (first | (simp (disch := omega) only [wrapI, ltF, if_false]; done) | (simp (disch := omega) only [wrapI, ltF, if_false]; first | exact ⟨rfl, rfl⟩ | rfl) | skip); (first | done | exact ⟨rfl, rfl⟩ | rfl)) ?_
    refine RegD.nil ⟨by kernel_rfl, ?_⟩
    refine DW.norm [(0, _), (3, _), (4, _)] [(31, _)] [] (by simp [hlt1, hw, hd, b1, b2, b3, hT, hTl]; exact ⟨rfl, rfl, rfl⟩) (by simp [hlt1, hw, hd, b1, b2, b3, hT, hTl]; rfl) (by simp [hlt1, hw, hd, b1, b2, b3, hT, hTl]) (by rfl) ?_
    refine DW.reg (by simp (maxSteps := 200000) (disch := first | omega | (simp; done) | fail) [wrapI, leT, leF, ltT, ltF, eqF, nleT, nleF, nltT, nltF, hlt1, hw, hd, b1, b2, b3, hT, hTl]; rfl) ?_
    exact ⟨i + 1, hlt, by omega, by simp [hRl2], by simp [hR2, hRl2], by simp, by rfl⟩
  · have hil : i = ws.length := by
      have : ¬ i < ws.length := by simpa using hc1
      omega
    subst hil
    have h00 : durF ws 0 = durN ws ws.length := by simp [durF]
    have h01 : (durN ws ws.length).length = ws.length := by rw [durN_len]; omega
    have h02 : (rD (durN ws ws.length)).length = ws.length * 3 := by rw [rD_len_Step, h01]
    refine DW.exit ?_
    refine DW.seq ?_
    refine DW.regs ?_
    refine RegO.opN 1 (by simp (maxSteps := 200000) (disch := first | omega | (simp; done) | fail) [wrapI, leT, leF, ltT, ltF, eqF, nleT, nleF, nltT, nltF]; rfl) ?_
    refine RegO.step rfl (OpStep.callA rfl (by simp (maxSteps := 200000) (disch := first | omega | (simp; done) | fail) [wrapI, leT, leF, ltT, ltF, eqF, nleT, nleF, nltT, nltF]; exact ⟨rfl, rfl⟩) (by simp (maxSteps := 200000) (disch := first | omega | (simp; done) | fail) [wrapI, leT, leF, ltT, ltF, eqF, nleT, nleF, nltT, nltF]; rfl) (by exact specLinesOf_spec _ hl) (by simp) (by simp (maxSteps := 200000) (disch := first | omega | (simp; done) | fail) [wrapI, leT, leF, ltT, ltF, eqF, nleT, nleF, nltT, nltF]; rfl)) ?_
    refine RegO.opN 1 (by simp (maxSteps := 200000) (disch := first | omega | (simp; done) | fail) [wrapI, leT, leF, ltT, ltF, eqF, nleT, nleF, nltT, nltF]; rfl) ?_
    refine RegO.nil ?_
    refine DW.seq ?_
    refine DW.seq ?_
    refine DW.reg (by simp (maxSteps := 200000) (disch := first | omega | (simp; done) | fail) [wrapI, leT, leF, ltT, ltF, eqF, nleT, nleF, nltT, nltF]; rfl) ?_
    refine DW.ghost (Ghost.move (id := 31) (id' := 47) (p := []) (by simp; rfl) (by simp; first | exact ⟨rfl, rfl, rfl⟩ | rfl) (by simp)) ?_
    refine DW.block ?_
    refine DW.loopS (α := Nat) (fun j => j ≤ (linesOf ws).length) (fun j => (linesOf ws).length - j) (fun j => [(6, vi j), (3, .v (.one (.sl 47 [] 0 (durF ws j).length)))]) (fun j => [(47, .ow () 3 (durF ws j).length (rD (durF ws j)))]) [(5, _)] [(33, _)] [] 0 (by simp) (by simp [h00, h01, h02]; rfl) (by simp [h00, h01, h02]; rfl) (by simp) (by rfl) ?_
    intro j hj
    refine DW.seq ?_
    refine DW.seq ?_
    refine DW.reg (by simp (maxSteps := 200000) (disch := first | omega | (simp; done) | fail) [wrapI, leT, leF, ltT, ltF, eqF, nleT, nleF, nltT, nltF]; rfl) ?_
    refine DW.condB (by simp (maxSteps := 200000) (disch := first | omega | (simp; done) | fail) [wrapI, leT, leF, ltT, ltF, eqF, nleT, nleF, nltT, nltF]; exact rfl) (fun hc2 => ?_) (fun hc2 => ?_)
    · have hltj : j < (linesOf ws).length := by simpa using hc2
      have hlt1 : (j : Int) < (linesOf ws).length := by omega
      have hd := rD_get_Int (linesOf ws) j hltj
      have hw := wr ((j : Int) + 1) (by omega) (by omega)
      have hR := durF_succ ws j hltj
      have hKl : (durF ws j).length = ws.length + min j (linesOf ws).length := durF_len ws j
      generalize (linesOf ws)[j] = c at hd hR
      generalize (durF ws j) = K at *
      have b1 : (K.length + 1) * 32 ≤ 140737488355328 := by omega
      have b2 : K.length + 1 ≤ 140737488355328 := by omega
      have b3 : K.length ≤ 140737488355327 := by omega
      have hT := rD_take_Step K
      have hTl := rD_len_Step K
      have hRl2 : (durF ws (j + 1)).length = K.length + 1 := by rw [hR]; simp
      have hR2 : rD (durF ws (j + 1)) = rD K ++ [T.sc (.int .i64 2), T.sc (.int .i64 c), T.sc (.string ByteArray.empty)] := by rw [hR, rD_append]; rfl
      clear hR
      refine DW.skip ?_
      refine DW.seq ?_
      refine DW.block ?_
      refine DW.reg (by simp [hlt1, hw, hd, b1, b2, b3, hT, hTl]; rfl) ?_
      refine DW.norm [(3, _), (5, _), (6, _)] [(47, _), (33, _)] [] (by simp [hlt1, hw, hd, b1, b2, b3, hT, hTl]; exact ⟨rfl, rfl, rfl⟩) (by simp [hlt1, hw, hd, b1, b2, b3, hT, hTl]; exact ⟨rfl, rfl⟩) (by simp [hlt1, hw, hd, b1, b2, b3, hT, hTl]) (by rfl) ?_
      refine DW.reg (by simp (maxSteps := 200000) (disch := first | omega | (simp; done) | fail) [wrapI, leT, leF, ltT, ltF, eqF, nleT, nleF, nltT, nltF, hlt1, hw, hd, b1, b2, b3, hT, hTl]; rfl) ?_
      exact ⟨j + 1, hltj, by omega, by simp [hRl2], by simp [hR2, hRl2], by simp, by rfl⟩
    · have hjl : j = (linesOf ws).length := by
        have : ¬ j < (linesOf ws).length := by simpa using hc2
        omega
      subst hjl
      have hKl : (durF ws (linesOf ws).length).length = ws.length + min (linesOf ws).length (linesOf ws).length := durF_len ws _
      rw [durable_eq ws h0]
      generalize durF ws (linesOf ws).length = K at *
      have b1 : (K.length + 1) * 32 ≤ 140737488355328 := by omega
      have b2 : K.length + 1 ≤ 140737488355328 := by omega
      have b3 : K.length ≤ 140737488355327 := by omega
      have hT := rD_take_Step K
      have hTl := rD_len_Step K
      have hR2 : rD (K ++ [⟨3, 0, ByteArray.empty⟩]) = rD K ++ [T.sc (.int .i64 3), T.sc (.int .i64 0), T.sc (.string ByteArray.empty)] := by rw [rD_append]; rfl
      have hT3 : List.take ((K.length + 1) * 3) (rD K ++ [T.sc (.int .i64 3), T.sc (.int .i64 0), T.sc (.string ByteArray.empty)]) = rD K ++ [T.sc (.int .i64 3), T.sc (.int .i64 0), T.sc (.string ByteArray.empty)] := List.take_of_length_le (by simp [hTl]; omega)
      have b4 : (K.length + 1) * 3 ≤ K.length * 3 + 3 := by omega
      refine DW.exit ?_
      refine DW.seq ?_
      refine DW.reg (by simp [b1, b2, b3, hT, hTl]; rfl) ?_
      refine DW.ret ?_
      simp [Try.results40, hR2, hT3, b4, hTl]
theorem implDurableP_spec (ws : List Write) (hl : ws.length ≤ 2 ^ 36) (h0 : 0 < ws.length) : Spec Try.prog 38 [ra ws] [none] [dr (durable ws)] [ra ws] := by
  refine Spec.intro Try.func38 rfl rfl Try.ntmps38 rfl (by simp) ?_
  have h0n : ¬ (ws.length : Int) = 0 := by omega
  have h0m : ¬ ws.length = 0 := by omega
  have h0e : ¬ ws = [] := fun e => by rw [e] at h0; simp at h0
  have hln := linesOf_len ws
  refine DW.seq ?_
  refine DW.reg (by simp (maxSteps := 200000) (disch := first | omega | (simp; done) | fail) [wrapI, leT, leF, ltT, ltF, eqF, nleT, nleF, nltT, nltF]; rfl) ?_
  refine DW.seq ?_
  refine DW.seq ?_
  refine DW.reg (by simp (maxSteps := 200000) (disch := first | omega | (simp; done) | fail) [wrapI, leT, leF, ltT, ltF, eqF, nleT, nleF, nltT, nltF]; rfl) ?_
  refine DW.condF (by simp (maxSteps := 200000) (disch := first | omega | (simp; done) | fail) [wrapI, leT, leF, ltT, ltF, eqF, nleT, nleF, nltT, nltF, h0e]) ?_
  refine DW.skip ?_
  refine DW.seq ?_
  refine DW.reg (by simp (maxSteps := 200000) (disch := first | omega | (simp; done) | fail) [wrapI, leT, leF, ltT, ltF, eqF, nleT, nleF, nltT, nltF]; rfl) ?_
  refine DW.ghost (Ghost.nlRow 3 25 3 (by simp) (by simp)) ?_
  refine DW.seq ?_
  refine DW.seq ?_
  refine DW.reg (by simp (maxSteps := 200000) (disch := first | omega | (simp; done) | fail) [wrapI, leT, leF, ltT, ltF, eqF, nleT, nleF, nltT, nltF]; rfl) ?_
  refine DW.block ?_
  refine DW.loopS (α := Nat) (fun i => i ≤ ws.length) (fun i => ws.length - i) (fun i => [(14, vi i), (3, .v (.one (.sl 25 [] 0 (durN ws i).length)))]) (fun i => [(25, .ow () 3 (durN ws i).length (rD (durN ws i)))]) [(0, _), (12, _), (13, _)] [] [] 0 (by simp) (by simp [durN]; exact ⟨rfl, rfl, rfl⟩) (by simp [durN]) (by simp) (by rfl) ?_
  intro i hi
  refine DW.seq ?_
  refine DW.reg (by simp (maxSteps := 200000) (disch := first | omega | (simp; done) | fail) [wrapI, leT, leF, ltT, ltF, eqF, nleT, nleF, nltT, nltF]; rfl) ?_
  refine DW.seq ?_
  refine DW.condB (by simp (maxSteps := 200000) (disch := first | omega | (simp; done) | fail) [wrapI, leT, leF, ltT, ltF, eqF, nleT, nleF, nltT, nltF]; exact rfl) (fun hc1 => ?_) (fun hc1 => ?_)
  · have hlt : i < ws.length := by simpa using hc1
    have hlt1 : (i : Int) < ws.length := by omega
    have hd := rR_drop_Write ws i hlt
    have hw := wr ((i : Int) + 1) (by omega) (by omega)
    have hR := durN_succ ws i hlt
    have hKl : (durN ws i).length = min i ws.length := durN_len ws i
    generalize ws[i] = c at hd hR
    generalize (durN ws i) = K at *
    have b1 : (K.length + 1) * 32 ≤ 140737488355328 := by omega
    have b2 : K.length + 1 ≤ 140737488355328 := by omega
    have b3 : K.length ≤ 140737488355327 := by omega
    have hT := rD_take_Step K
    have hTl := rD_len_Step K
    have hRl2 : (durN ws (i + 1)).length = K.length + 1 := by rw [hR]; simp
    have hR2 : rD (durN ws (i + 1)) = rD K ++ [T.sc (.int .i64 1), T.sc (.int .i64 c.At), T.sc (.string c.Word)] := by rw [hR, rD_append]; rfl
    clear hR
    refine DW.skip ?_
    refine DW.seq ?_
    refine DW.block ?_
    refine DW.seq ?_
    refine DW.reg (by simp [hlt1, hw, hd, b1, b2, b3, hT, hTl]; rfl) ?_
    refine DW.reg (by simp [hlt1, hw, hd, b1, b2, b3, hT, hTl]; rfl) ?_
    refine DW.norm [(0, _), (3, _), (12, _), (13, _), (14, _)] [(25, _)] [] (by simp [hlt1, hw, hd, b1, b2, b3, hT, hTl]; exact ⟨rfl, rfl, rfl, rfl, rfl⟩) (by simp [hlt1, hw, hd, b1, b2, b3, hT, hTl]; rfl) (by simp [hlt1, hw, hd, b1, b2, b3, hT, hTl]) (by rfl) ?_
    refine DW.reg (by simp (maxSteps := 200000) (disch := first | omega | (simp; done) | fail) [wrapI, leT, leF, ltT, ltF, eqF, nleT, nleF, nltT, nltF, hlt1, hw, hd, b1, b2, b3, hT, hTl]; rfl) ?_
    exact ⟨i + 1, hlt, by omega, by simp [hRl2], by simp [hR2, hRl2], by simp, by rfl⟩
  · have hil : i = ws.length := by
      have : ¬ i < ws.length := by simpa using hc1
      omega
    subst hil
    have h00 : durF ws 0 = durN ws ws.length := by simp [durF]
    have h01 : (durN ws ws.length).length = ws.length := by rw [durN_len]; omega
    have h02 : (rD (durN ws ws.length)).length = ws.length * 3 := by rw [rD_len_Step, h01]
    refine DW.exit ?_
    refine DW.seq ?_
    refine DW.seq ?_
    refine DW.regs ?_
    refine RegO.opN 1 (by simp (maxSteps := 200000) (disch := first | omega | (simp; done) | fail) [wrapI, leT, leF, ltT, ltF, eqF, nleT, nleF, nltT, nltF]; rfl) ?_
    refine RegO.step rfl (OpStep.callA rfl (by simp (maxSteps := 200000) (disch := first | omega | (simp; done) | fail) [wrapI, leT, leF, ltT, ltF, eqF, nleT, nleF, nltT, nltF]; exact ⟨rfl, rfl⟩) (by simp (maxSteps := 200000) (disch := first | omega | (simp; done) | fail) [wrapI, leT, leF, ltT, ltF, eqF, nleT, nleF, nltT, nltF]; rfl) (by exact implLinesOf_spec _ hl) (by simp) (by simp (maxSteps := 200000) (disch := first | omega | (simp; done) | fail) [wrapI, leT, leF, ltT, ltF, eqF, nleT, nleF, nltT, nltF]; rfl)) ?_
    refine RegO.opN 2 (by simp (maxSteps := 200000) (disch := first | omega | (simp; done) | fail) [wrapI, leT, leF, ltT, ltF, eqF, nleT, nleF, nltT, nltF]; rfl) ?_
    refine RegO.nil ?_
    refine DW.ghost (Ghost.move (id := 25) (id' := 38) (p := []) (by simp; rfl) (by simp; first | exact ⟨rfl, rfl, rfl⟩ | rfl) (by simp)) ?_
    refine DW.block ?_
    refine DW.loopS (α := Nat) (fun j => j ≤ (linesOf ws).length) (fun j => (linesOf ws).length - j) (fun j => [(30, vi j), (3, .v (.one (.sl 38 [] 0 (durF ws j).length)))]) (fun j => [(38, .ow () 3 (durF ws j).length (rD (durF ws j)))]) [(28, _), (29, _)] [(28, _)] [] 0 (by simp) (by simp [h00, h01, h02]; exact ⟨rfl, rfl⟩) (by simp [h00, h01, h02]; rfl) (by simp) (by rfl) ?_
    intro j hj
    refine DW.seq ?_
    refine DW.reg (by simp (maxSteps := 200000) (disch := first | omega | (simp; done) | fail) [wrapI, leT, leF, ltT, ltF, eqF, nleT, nleF, nltT, nltF]; rfl) ?_
    refine DW.seq ?_
    refine DW.condB (by simp (maxSteps := 200000) (disch := first | omega | (simp; done) | fail) [wrapI, leT, leF, ltT, ltF, eqF, nleT, nleF, nltT, nltF]; exact rfl) (fun hc2 => ?_) (fun hc2 => ?_)
    · have hltj : j < (linesOf ws).length := by simpa using hc2
      have hlt1 : (j : Int) < (linesOf ws).length := by omega
      have hd := rD_get_Int (linesOf ws) j hltj
      have hw := wr ((j : Int) + 1) (by omega) (by omega)
      have hR := durF_succ ws j hltj
      have hKl : (durF ws j).length = ws.length + min j (linesOf ws).length := durF_len ws j
      generalize (linesOf ws)[j] = c at hd hR
      generalize (durF ws j) = K at *
      have b1 : (K.length + 1) * 32 ≤ 140737488355328 := by omega
      have b2 : K.length + 1 ≤ 140737488355328 := by omega
      have b3 : K.length ≤ 140737488355327 := by omega
      have hT := rD_take_Step K
      have hTl := rD_len_Step K
      have hRl2 : (durF ws (j + 1)).length = K.length + 1 := by rw [hR]; simp
      have hR2 : rD (durF ws (j + 1)) = rD K ++ [T.sc (.int .i64 2), T.sc (.int .i64 c), T.sc (.string ByteArray.empty)] := by rw [hR, rD_append]; rfl
      clear hR
      refine DW.skip ?_
      refine DW.seq ?_
      refine DW.block ?_
      refine DW.seq ?_
      refine DW.reg (by simp (maxSteps := 200000) (disch := first | omega | (simp; done) | fail) [wrapI, leT, leF, ltT, ltF, eqF, nleT, nleF, nltT, nltF, hlt1, hw, hd, b1, b2, b3, hT, hTl]; rfl) ?_
      refine DW.reg (by simp [hlt1, hw, hd, b1, b2, b3, hT, hTl]; rfl) ?_
      refine DW.norm [(3, _), (28, _), (29, _), (30, _)] [(38, _), (28, _)] [] (by simp [hlt1, hw, hd, b1, b2, b3, hT, hTl]; exact ⟨rfl, rfl, rfl, rfl⟩) (by simp [hlt1, hw, hd, b1, b2, b3, hT, hTl]; exact ⟨rfl, rfl⟩) (by simp [hlt1, hw, hd, b1, b2, b3, hT, hTl]) (by rfl) ?_
      refine DW.reg (by simp (maxSteps := 200000) (disch := first | omega | (simp; done) | fail) [wrapI, leT, leF, ltT, ltF, eqF, nleT, nleF, nltT, nltF, hlt1, hw, hd, b1, b2, b3, hT, hTl]; rfl) ?_
      exact ⟨j + 1, hltj, by omega, by simp [hRl2], by simp [hR2, hRl2], by simp, by rfl⟩
    · have hjl : j = (linesOf ws).length := by
        have : ¬ j < (linesOf ws).length := by simpa using hc2
        omega
      subst hjl
      have hKl : (durF ws (linesOf ws).length).length = ws.length + min (linesOf ws).length (linesOf ws).length := durF_len ws _
      rw [durable_eq ws h0]
      generalize durF ws (linesOf ws).length = K at *
      have b1 : (K.length + 1) * 32 ≤ 140737488355328 := by omega
      have b2 : K.length + 1 ≤ 140737488355328 := by omega
      have b3 : K.length ≤ 140737488355327 := by omega
      have hT := rD_take_Step K
      have hTl := rD_len_Step K
      have hR2 : rD (K ++ [⟨3, 0, ByteArray.empty⟩]) = rD K ++ [T.sc (.int .i64 3), T.sc (.int .i64 0), T.sc (.string ByteArray.empty)] := by rw [rD_append]; rfl
      have hT3 : List.take ((K.length + 1) * 3) (rD K ++ [T.sc (.int .i64 3), T.sc (.int .i64 0), T.sc (.string ByteArray.empty)]) = rD K ++ [T.sc (.int .i64 3), T.sc (.int .i64 0), T.sc (.string ByteArray.empty)] := List.take_of_length_le (by simp [hTl]; omega)
      have b4 : (K.length + 1) * 3 ≤ K.length * 3 + 3 := by omega
      refine DW.exit ?_
      refine DW.seq ?_
      refine DW.reg (by simp [b1, b2, b3, hT, hTl]; rfl) ?_
      refine DW.ret ?_
      simp [Try.results38, hR2, hT3, b4, hTl]
theorem specDurableN_spec  : Spec Try.prog 40 [ra ([] : List Write)] [none] [dr ([] : List Step)] [ra ([] : List Write)] := by
  refine Spec.intro Try.func40 rfl rfl Try.ntmps40 rfl (by simp) ?_
  refine DW.seq ?_
  refine DW.reg (by simp (maxSteps := 200000) (disch := first | omega | (simp; done) | fail) [wrapI, leT, leF, ltT, ltF, eqF, nleT, nleF, nltT, nltF]; rfl) ?_
  refine DW.seq ?_
  refine DW.reg (by simp (maxSteps := 200000) (disch := first | omega | (simp; done) | fail) [wrapI, leT, leF, ltT, ltF, eqF, nleT, nleF, nltT, nltF]; rfl) ?_
  refine DW.seq ?_
  refine DW.seq ?_
  refine DW.reg (by simp (maxSteps := 200000) (disch := first | omega | (simp; done) | fail) [wrapI, leT, leF, ltT, ltF, eqF, nleT, nleF, nltT, nltF]; rfl) ?_
  refine DW.condT (by simp (maxSteps := 200000) (disch := first | omega | (simp; done) | fail) [wrapI, leT, leF, ltT, ltF, eqF, nleT, nleF, nltT, nltF]) ?_
  refine DW.seq ?_
  refine DW.reg (by simp (maxSteps := 200000) (disch := first | omega | (simp; done) | fail) [wrapI, leT, leF, ltT, ltF, eqF, nleT, nleF, nltT, nltF]; rfl) ?_
  refine DW.ghost (Ghost.nlRow 2 1000 3 (by simp) (by simp)) ?_
  refine DW.ret ?_
  simp [Try.results40]
theorem specDurable_spec (ws : List Write) (hl : ws.length ≤ 2 ^ 36) : Spec Try.prog 40 [ra ws] [none] [dr (durable ws)] [ra ws] := by
  rcases Nat.eq_zero_or_pos ws.length with h | h
  · obtain rfl := List.eq_nil_of_length_eq_zero h
    exact specDurableN_spec
  · exact specDurableP_spec ws hl h
theorem implDurableN_spec  : Spec Try.prog 38 [ra ([] : List Write)] [none] [dr ([] : List Step)] [ra ([] : List Write)] := by
  refine Spec.intro Try.func38 rfl rfl Try.ntmps38 rfl (by simp) ?_
  refine DW.seq ?_
  refine DW.reg (by simp (maxSteps := 200000) (disch := first | omega | (simp; done) | fail) [wrapI, leT, leF, ltT, ltF, eqF, nleT, nleF, nltT, nltF]; rfl) ?_
  refine DW.seq ?_
  refine DW.seq ?_
  refine DW.reg (by simp (maxSteps := 200000) (disch := first | omega | (simp; done) | fail) [wrapI, leT, leF, ltT, ltF, eqF, nleT, nleF, nltT, nltF]; rfl) ?_
  refine DW.condT (by simp (maxSteps := 200000) (disch := first | omega | (simp; done) | fail) [wrapI, leT, leF, ltT, ltF, eqF, nleT, nleF, nltT, nltF]) ?_
  refine DW.seq ?_
  refine DW.reg (by simp; rfl) ?_
  refine DW.ghost (Ghost.nlRow 2 1000 3 (by simp) (by simp)) ?_
  refine DW.ret ?_
  simp [Try.results38]
theorem implDurable_spec (ws : List Write) (hl : ws.length ≤ 2 ^ 36) : Spec Try.prog 38 [ra ws] [none] [dr (durable ws)] [ra ws] := by
  rcases Nat.eq_zero_or_pos ws.length with h | h
  · obtain rfl := List.eq_nil_of_length_eq_zero h
    exact implDurableN_spec
  · exact implDurableP_spec ws hl h
end Go.Proofs.Ytjjdjkkhhcbogaa.DM
