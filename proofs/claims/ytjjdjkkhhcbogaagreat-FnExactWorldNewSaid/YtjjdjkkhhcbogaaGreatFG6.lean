import Derived.Test.YtjjdjkkhhcbogaaGreatFG5
namespace Go.Proofs.YtjjdjkkhhcbogaaGreat.DM
set_option linter.unusedVariables false
set_option linter.unusedSimpArgs false
set_option maxRecDepth 4000
set_option maxHeartbeats 8000000
theorem specStatesWords_spec (l : List Int) (ok : stOk l l.length = true) : Spec Tryz.prog 119 [ra l] [none] [dr (stWords l)] [ra l] := by
  refine Spec.intro Tryz.func119 rfl rfl Tryz.ntmps119 rfl (by simp) ?_
  have hok := ok
  simp only [stOk, Bool.and_eq_true, inB_iff, decide_eq_true_eq] at hok
  obtain ⟨ha, -, hl1, hl2⟩ := hok
  have hl12 : l.length ≤ 12 := by omega
  have hall : ∀ i (h : i < l.length), 0 ≤ l[i] ∧ l[i] ≤ 2 := fun i h => by
    simp only [stAll, List.all_eq_true] at ha
    exact inB_iff.1 (ha _ (List.getElem_mem h))
  have hz0 : List.replicate 16 (T.sc (.int .u8 0) : D) = bytesR (stFill l 0) := by rw [bytesR_zero]; simp [stFill, stL]
  refine DW.seq ?_
  refine DW.reg (by simp (maxSteps := 200000) (disch := first | omega | (simp; done) | fail) [wrapI, leT, leF, ltT, ltF, eqF, nleT, nleF, nltT, nltF, ok]; rfl) ?_
  refine DW.seq ?_
  refine DW.seq ?_
  refine DW.regs ?_
  refine RegO.opN 3 (by simp (maxSteps := 200000) (disch := first | omega | (simp; done) | fail) [wrapI, leT, leF, ltT, ltF, eqF, nleT, nleF, nltT, nltF, ok]; rfl) ?_
  refine RegO.step rfl (OpStep.callA rfl (by simp (maxSteps := 200000) (disch := first | omega | (simp; done) | fail) [wrapI, leT, leF, ltT, ltF, eqF, nleT, nleF, nltT, nltF, ok]; exact ⟨rfl, rfl⟩) (by simp (maxSteps := 200000) (disch := first | omega | (simp; done) | fail) [wrapI, leT, leF, ltT, ltF, eqF, nleT, nleF, nltT, nltF, ok]; rfl) (by exact specStatesOk_spec _ _ (by omega)) (by simp) (by simp (maxSteps := 200000) (disch := first | omega | (simp; done) | fail) [wrapI, leT, leF, ltT, ltF, eqF, nleT, nleF, nltT, nltF, ok]; rfl)) ?_
  refine RegO.opN 1 (by simp (maxSteps := 200000) (disch := first | omega | (simp; done) | fail) [wrapI, leT, leF, ltT, ltF, eqF, nleT, nleF, nltT, nltF, ok]; rfl) ?_
  refine RegO.nil ?_
  refine DW.condF (by simp (maxSteps := 200000) (disch := first | omega | (simp; done) | fail) [wrapI, leT, leF, ltT, ltF, eqF, nleT, nleF, nltT, nltF, ok]) ?_
  refine DW.skip ?_
  refine DW.seq ?_
  refine DW.reg (by simp (maxSteps := 200000) (disch := first | omega | (simp; done) | fail) [wrapI, leT, leF, ltT, ltF, eqF, nleT, nleF, nltT, nltF, ok]; rfl) ?_
  refine DW.seq ?_
  refine DW.seq ?_
  refine DW.reg (by simp (maxSteps := 200000) (disch := first | omega | (simp; done) | fail) [wrapI, leT, leF, ltT, ltF, eqF, nleT, nleF, nltT, nltF, ok]; rfl) ?_
  refine DW.block ?_
  refine DW.loopS (α := Nat) (fun i => i ≤ l.length) (fun i => l.length - i) (fun i => [(4, vi i)]) (fun i => [(11, .ow () 1 16 (bytesR (stFill l i)))]) [(0, _), (3, _)] [] [] 0 (by simp) (by simp; exact ⟨rfl, rfl⟩) (by simp [stFill, stL, bytesR]) (by simp) (by rfl) ?_
  intro i hi
  refine DW.seq ?_
  refine DW.seq ?_
  refine DW.reg (by simp (maxSteps := 200000) (disch := first | omega | (simp; done) | fail) [wrapI, leT, leF, ltT, ltF, eqF, nleT, nleF, nltT, nltF, ok]; rfl) ?_
  refine DW.condB (by simp (maxSteps := 200000) (disch := first | omega | (simp; done) | fail) [wrapI, leT, leF, ltT, ltF, eqF, nleT, nleF, nltT, nltF, ok]; exact rfl) (fun hc1 => ?_) (fun hc1 => ?_)
  · have hlt : i < l.length := by simpa using hc1
    have hlt1 : (i : Int) < l.length := by omega
    have hd := rR_get_Int l i hlt
    have hcb := hall i hlt
    have hu : IntKind.u8.wrap l[i] = ((u8 l[i]).toNat : Int) := by
      rw [u8_nat (by omega) (by omega)]
      simp [IntKind.wrap, IntKind.bits, IntKind.signed]; omega
    have hset : (bytesR (stFill l i)).set i (T.sc (.int .u8 (u8 l[i]).toNat)) = bytesR (stFill l (i + 1)) := by rw [bytesR_set, stFill_set l i hlt (by omega)]
    have hfl : (stFill l i).length = 16 := stFill_len l i hi (by omega)
    have hfl2 : (bytesR (stFill l i)).length = 16 := by simp [hfl]
    have h16 : i < 16 := by omega
    have h16i : (i : Int) < 16 := by omega
    have hw := wr ((i : Int) + 1) (by omega) (by omega)
    generalize l[i] = c at *
    refine DW.skip ?_
    refine DW.seq ?_
    refine DW.block ?_
    refine DW.reg (by simp [ok, hlt1, hd, hu, hset, hfl, h16, h16i, hw, hfl2]; rfl) ?_
    refine DW.norm [(0, _), (3, _), (4, _)] [(11, _)] [] (by simp [ok, hlt1, hd, hu, hset, hfl, h16, h16i, hw, hfl2]; exact ⟨rfl, rfl, rfl⟩) (by simp [ok, hlt1, hd, hu, hset, hfl, h16, h16i, hw, hfl2]; rfl) (by simp [ok, hlt1, hd, hu, hset, hfl, h16, h16i, hw, hfl2]) (by rfl) ?_
    refine DW.reg (by simp (maxSteps := 200000) (disch := first | omega | (simp; done) | fail) [wrapI, leT, leF, ltT, ltF, eqF, nleT, nleF, nltT, nltF, ok, hlt1, hd, hu, hset, hfl, h16, h16i, hw, hfl2]; rfl) ?_
    exact ⟨i + 1, hlt, by omega, by simp, by simp, by simp, by rfl⟩
  · have hil : i = l.length := by
      have : ¬ i < l.length := by simpa using hc1
      omega
    subst hil
    have hfl := stFill_len l l.length (Nat.le_refl _) (by omega)
    have hfin := stWords_fill ok
    have hx1 : ((bytesR (stFill l l.length)).drop 0).take 8 = bytesR ((stFill l l.length).take 8) := by simp
    have hx2 : ((bytesR (stFill l l.length)).drop 8).take 8 = bytesR ((stFill l l.length).drop 8) := by rw [bytesR_drop, bytesR_take, List.take_of_length_le (by simp [hfl])]
    refine DW.exit ?_
    refine DW.seq ?_
    refine DW.drawn mixed (by kernel_rfl) ?_
    refine RegD.addN 2 (by simp [ok, hfl]; (first | (simp (disch := omega) only [wrapI]; done) | (simp (disch := omega) only [wrapI]; exact ⟨rfl, rfl⟩) | skip); (first | done | exact ⟨rfl, rfl⟩ | rfl)) ?_
    refine RegD.cert (Cert.rowStr (id := 11) (p := []) (off := 0) (n := 8) (N := 16) (cs := bytesR (stFill l l.length)) ((stFill l l.length).take 8) rfl rfl rfl (by decide) rfl rfl rfl (by simp) (by simp; rfl) (by rfl) (by simp [hfl]) hx1) ?_
    refine RegD.addN 2 (by simp [ok, hfl]; (first | (simp (disch := omega) only [wrapI]; done) | (simp (disch := omega) only [wrapI]; exact ⟨rfl, rfl⟩) | skip); (first | done | exact ⟨rfl, rfl⟩ | rfl)) ?_
    refine RegD.cert (Cert.rowStr (id := 11) (p := []) (off := 8) (n := 8) (N := 16) (cs := bytesR (stFill l l.length)) ((stFill l l.length).drop 8) rfl rfl rfl (by decide) rfl rfl rfl (by simp) (by simp; rfl) (by rfl) (by simp [hfl]) hx2) ?_
    refine RegD.cert (Cert.buildRo (rcs := [.sc (.string ⟨((stFill l l.length).take 8).toArray⟩), .sc (.string ⟨((stFill l l.length).drop 8).toArray⟩)]) rfl rfl rfl (by decide) (by simp; exact ⟨rfl, rfl⟩) (by simp; rfl) (by simp; rfl) (by rfl) (by decide) (by decide) (by simp [ok, hfl]; rfl) (by simp [ok, hfl]; rfl) (by rfl) (by simp)) ?_
    refine RegD.addN 1 (by simp [ok, hfl]; (first | (simp (disch := omega) only [wrapI]; done) | (simp (disch := omega) only [wrapI]; exact ⟨rfl, rfl⟩) | skip); (first | done | exact ⟨rfl, rfl⟩ | rfl)) ?_
    refine RegD.nil ⟨by kernel_rfl, ?_⟩
    refine DW.ret ?_
    rw [hfin]
    simp [Tryz.results119] <;> rfl
theorem implStatesWords_spec (l : List Int) (ok : stOk l l.length = true) : Spec Tryz.prog 62 [ra l] [none] [dr (stWords l)] [ra l] := by
  refine Spec.intro Tryz.func62 rfl rfl Tryz.ntmps62 rfl (by simp) ?_
  have hok := ok
  simp only [stOk, Bool.and_eq_true, inB_iff, decide_eq_true_eq] at hok
  obtain ⟨ha, -, hl1, hl2⟩ := hok
  have hl12 : l.length ≤ 12 := by omega
  have hall : ∀ i (h : i < l.length), 0 ≤ l[i] ∧ l[i] ≤ 2 := fun i h => by
    simp only [stAll, List.all_eq_true] at ha
    exact inB_iff.1 (ha _ (List.getElem_mem h))
  refine DW.seq ?_
  refine DW.reg (by simp (maxSteps := 200000) (disch := first | omega | (simp; done) | fail) [wrapI, leT, leF, ltT, ltF, eqF, nleT, nleF, nltT, nltF, ok]; rfl) ?_
  refine DW.seq ?_
  refine DW.seq ?_
  refine DW.regs ?_
  refine RegO.opN 3 (by simp (maxSteps := 200000) (disch := first | omega | (simp; done) | fail) [wrapI, leT, leF, ltT, ltF, eqF, nleT, nleF, nltT, nltF, ok]; rfl) ?_
  refine RegO.step rfl (OpStep.callA rfl (by simp (maxSteps := 200000) (disch := first | omega | (simp; done) | fail) [wrapI, leT, leF, ltT, ltF, eqF, nleT, nleF, nltT, nltF, ok]; exact ⟨rfl, rfl⟩) (by simp (maxSteps := 200000) (disch := first | omega | (simp; done) | fail) [wrapI, leT, leF, ltT, ltF, eqF, nleT, nleF, nltT, nltF, ok]; rfl) (by exact implStatesOk_spec _ _ (by omega)) (by simp) (by simp (maxSteps := 200000) (disch := first | omega | (simp; done) | fail) [wrapI, leT, leF, ltT, ltF, eqF, nleT, nleF, nltT, nltF, ok]; rfl)) ?_
  refine RegO.opN 1 (by simp (maxSteps := 200000) (disch := first | omega | (simp; done) | fail) [wrapI, leT, leF, ltT, ltF, eqF, nleT, nleF, nltT, nltF, ok]; rfl) ?_
  refine RegO.nil ?_
  refine DW.condF (by simp (maxSteps := 200000) (disch := first | omega | (simp; done) | fail) [wrapI, leT, leF, ltT, ltF, eqF, nleT, nleF, nltT, nltF, ok]) ?_
  refine DW.skip ?_
  refine DW.seq ?_
  refine DW.reg (by simp (maxSteps := 200000) (disch := first | omega | (simp; done) | fail) [wrapI, leT, leF, ltT, ltF, eqF, nleT, nleF, nltT, nltF, ok]; rfl) ?_
  refine DW.ghost (Ghost.nlRow 3 22 1 (by simp) (by simp)) ?_
  refine DW.seq ?_
  refine DW.seq ?_
  refine DW.reg (by simp (maxSteps := 200000) (disch := first | omega | (simp; done) | fail) [wrapI, leT, leF, ltT, ltF, eqF, nleT, nleF, nltT, nltF, ok]; rfl) ?_
  refine DW.block ?_
  refine DW.loopS (α := Nat) (fun i => i ≤ l.length) (fun i => l.length - i) (fun i => [(14, vi i), (3, .v (.one (.sl 22 [] 0 i)))]) (fun i => [(22, .ow () 1 i (bytesR (stL l i)))]) [(12, _), (13, _)] [] [] 0 (by simp) (by simp; exact ⟨rfl, rfl⟩) (by simp [stL, bytesR]) (by simp) (by rfl) ?_
  intro i hi
  refine DW.seq ?_
  refine DW.reg (by simp (maxSteps := 200000) (disch := first | omega | (simp; done) | fail) [wrapI, leT, leF, ltT, ltF, eqF, nleT, nleF, nltT, nltF, ok]; rfl) ?_
  refine DW.seq ?_
  refine DW.condB (by simp (maxSteps := 200000) (disch := first | omega | (simp; done) | fail) [wrapI, leT, leF, ltT, ltF, eqF, nleT, nleF, nltT, nltF, ok]; exact rfl) (fun hc1 => ?_) (fun hc1 => ?_)
  · have hlt : i < l.length := by simpa using hc1
    have hlt1 : (i : Int) < l.length := by omega
    have hd := rR_get_Int l i hlt
    have hcb := hall i hlt
    have hu : IntKind.u8.wrap l[i] = ((u8 l[i]).toNat : Int) := by
      rw [u8_nat (by omega) (by omega)]
      simp [IntKind.wrap, IntKind.bits, IntKind.signed]; omega
    have hset : bytesR (stL l i) ++ [T.sc (.int .u8 (u8 l[i]).toNat)] = bytesR (stL l (i + 1)) := by rw [bytesR_snoc, stL_succ l i hlt]
    have hsl : (stL l i).length = i := by simp; omega
    have b1 : i + 1 ≤ 140737488355328 := by omega
    have b2 : i ≤ 140737488355327 := by omega
    have hw := wr ((i : Int) + 1) (by omega) (by omega)
    generalize l[i] = c at *
    refine DW.skip ?_
    refine DW.seq ?_
    refine DW.block ?_
    refine DW.seq ?_
    refine DW.reg (by simp (maxSteps := 200000) (disch := first | omega | (simp; done) | fail) [wrapI, leT, leF, ltT, ltF, eqF, nleT, nleF, nltT, nltF, ok, hlt1, hd, hu, hw, b1, b2, hsl]; rfl) ?_
    refine DW.reg (by simp [ok, hlt1, hd, hu, hw, b1, b2, hsl]; rfl) ?_
    refine DW.norm [(3, _), (12, _), (13, _), (14, _)] [(22, _)] [] (by simp [ok, hlt1, hd, hu, hw, b1, b2, hsl]; exact ⟨rfl, rfl, rfl, rfl⟩) (by simp [ok, hlt1, hd, hu, hw, b1, b2, hsl]; rfl) (by simp [ok, hlt1, hd, hu, hw, b1, b2, hsl]) (by rfl) ?_
    refine DW.reg (by simp (maxSteps := 200000) (disch := first | omega | (simp; done) | fail) [wrapI, leT, leF, ltT, ltF, eqF, nleT, nleF, nltT, nltF, ok, hlt1, hd, hu, hw, b1, b2, hsl]; rfl) ?_
    exact ⟨i + 1, hlt, by omega, by simp, by simp [hset], by simp, by rfl⟩
  · have hil : i = l.length := by
      have : ¬ i < l.length := by simpa using hc1
      omega
    subst hil
    have hsl : (stL l l.length).length = l.length := by simp
    have hfin := stWords_words ok
    have hst : (⟨(stL l l.length).toArray⟩ : ByteArray) = stB l := by simp [stL, stB]
    have hsb := stB_size l
    have hsw : (stWords l).length = 2 := by simp [stWords, ok]
    have hT2 : List.take 2 (rD (stWords l)) = rD (stWords l) := by have := rD_take1_ByteArray (stWords l); rwa [hsw] at this
    refine DW.exit ?_
    refine DW.seq ?_
    refine DW.regs ?_
    refine RegO.opN 1 (by simp (maxSteps := 200000) (disch := first | omega | (simp; done) | fail) [wrapI, leT, leF, ltT, ltF, eqF, nleT, nleF, nltT, nltF, ok, hsl, hst]; rfl) ?_
    refine RegO.step rfl (OpStep.rowStr (n := l.length) (l := (stL l l.length)) rfl rfl (by decide) (by simp; rfl) (by simp) (by simp) (by simp [rowLen, hsl]) (by simp [hsl]; (first | exact ⟨rfl, rfl⟩ | rfl))) ?_
    refine RegO.step rfl (OpStep.callA rfl (by simp (maxSteps := 200000) (disch := first | omega | (simp; done) | fail) [wrapI, leT, leF, ltT, ltF, eqF, nleT, nleF, nltT, nltF, ok, hsl, hst]; exact ⟨rfl, rfl⟩) (by simp (maxSteps := 200000) (disch := first | omega | (simp; done) | fail) [wrapI, leT, leF, ltT, ltF, eqF, nleT, nleF, nltT, nltF, ok, hsl, hst]; rfl) (by exact padded_spec (stB l) 16 (by omega) (by omega)) (by simp) (by simp (maxSteps := 200000) (disch := first | omega | (simp; done) | fail) [wrapI, leT, leF, ltT, ltF, eqF, nleT, nleF, nltT, nltF, ok, hsl, hst]; rfl)) ?_
    refine RegO.step rfl (OpStep.callA rfl (by simp (maxSteps := 200000) (disch := first | omega | (simp; done) | fail) [wrapI, leT, leF, ltT, ltF, eqF, nleT, nleF, nltT, nltF, ok, hsl, hst]; exact ⟨rfl, rfl⟩) (by simp (maxSteps := 200000) (disch := first | omega | (simp; done) | fail) [wrapI, leT, leF, ltT, ltF, eqF, nleT, nleF, nltT, nltF, ok, hsl, hst]; rfl) (by exact implWordsOf_spec _ (by simp; omega)) (by simp) (by simp (maxSteps := 200000) (disch := first | omega | (simp; done) | fail) [wrapI, leT, leF, ltT, ltF, eqF, nleT, nleF, nltT, nltF, ok, hsl, hst]; rfl)) ?_
    refine RegO.opN 1 (by simp (maxSteps := 200000) (disch := first | omega | (simp; done) | fail) [wrapI, leT, leF, ltT, ltF, eqF, nleT, nleF, nltT, nltF, ok, hsl, hst]; rfl) ?_
    refine RegO.nil ?_
    refine DW.ret ?_
    simp [Tryz.results62, hfin, hsw, hT2] <;> rfl
end Go.Proofs.YtjjdjkkhhcbogaaGreat.DM
