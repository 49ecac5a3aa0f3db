import Derived.Test.YtjjdjkkhhcbogaaGreatFG14
namespace Go.Proofs.YtjjdjkkhhcbogaaGreat.DM
set_option linter.unusedVariables false
set_option linter.unusedSimpArgs false
set_option maxRecDepth 4000
set_option maxHeartbeats 8000000
theorem l14Writes_spec (g : Geo) (t : Int) (p : Part) (ht : tenOk g t = true) (hp : NewP g p) : Spec Tryz.prog 135 [raGeo g, ri t, raPart p] [none] [dr (partW g t p)] [raGeo g, ri t, raPart p] := by
  refine Spec.intro Tryz.func135 rfl rfl Tryz.ntmps135 rfl (by simp) ?_
  have hs := hp.simp
  obtain ⟨hg, -, -⟩ := tenIn ht
  have hii := hg.i
  have hlen := hp.l
  have hp0 := placeIn_bd (x := 36) ht (by omega) (by omega)
  have hstl := (stOk_pages hp.st)
  have hok : stOk p.States p.States.length = true := by rw [hstl.1]; exact hp.st
  obtain ⟨ws, hws⟩ : ∃ ws, ws = stWords p.States := ⟨_, rfl⟩
  have hS : Spec Tryz.prog 119 [ra p.States] [none] [dr ws] [ra p.States] := hws ▸ specStatesWords_spec _ hok
  have hwl : ws.length = 2 := by rw [hws]; simp [stWords, hok]
  refine DW.seq ?_
  refine DW.reg (by simp (maxSteps := 200000) (disch := first | omega | (simp; done) | fail) [wrapI, leT, leF, ltT, ltF, eqF, nleT, nleF, nltT, nltF]; rfl) ?_
  refine DW.seq ?_
  refine DW.reg (by simp (maxSteps := 200000) (disch := first | omega | (simp; done) | fail) [wrapI, leT, leF, ltT, ltF, eqF, nleT, nleF, nltT, nltF]; rfl) ?_
  refine DW.ghost (Ghost.nlRow 7 36 2 (by simp) (by simp)) ?_
  refine DW.seq ?_
  refine DW.regs ?_
  refine RegO.opN 2 (by simp (maxSteps := 200000) (disch := first | omega | (simp; done) | fail) [wrapI, leT, leF, ltT, ltF, eqF, nleT, nleF, nltT, nltF]; rfl) ?_
  refine RegO.step rfl (OpStep.callA rfl (by simp (maxSteps := 200000) (disch := first | omega | (simp; done) | fail) [wrapI, leT, leF, ltT, ltF, eqF, nleT, nleF, nltT, nltF]; exact ⟨rfl, rfl⟩) (by simp (maxSteps := 200000) (disch := first | omega | (simp; done) | fail) [wrapI, leT, leF, ltT, ltF, eqF, nleT, nleF, nltT, nltF]; rfl) (by exact hS) (by simp) (by simp (maxSteps := 200000) (disch := first | omega | (simp; done) | fail) [wrapI, leT, leF, ltT, ltF, eqF, nleT, nleF, nltT, nltF]; rfl)) ?_
  refine RegO.opN 1 (by simp (maxSteps := 200000) (disch := first | omega | (simp; done) | fail) [wrapI, leT, leF, ltT, ltF, eqF, nleT, nleF, nltT, nltF]; rfl) ?_
  refine RegO.nil ?_
  refine DW.seq ?_
  refine DW.regs ?_
  refine RegO.opN 2 (by simp (maxSteps := 200000) (disch := first | omega | (simp; done) | fail) [wrapI, leT, leF, ltT, ltF, eqF, nleT, nleF, nltT, nltF]; rfl) ?_
  refine RegO.step rfl (OpStep.callA rfl (by simp (maxSteps := 200000) (disch := first | omega | (simp; done) | fail) [wrapI, leT, leF, ltT, ltF, eqF, nleT, nleF, nltT, nltF]; exact ⟨rfl, rfl⟩) (by simp (maxSteps := 200000) (disch := first | omega | (simp; done) | fail) [wrapI, leT, leF, ltT, ltF, eqF, nleT, nleF, nltT, nltF]; rfl) (by exact l11At_spec g t 36 (by omega) (by omega)) (by simp) (by simp (maxSteps := 200000) (disch := first | omega | (simp; done) | fail) [wrapI, leT, leF, ltT, ltF, eqF, nleT, nleF, nltT, nltF]; rfl)) ?_
  refine RegO.opN 1 (by simp (maxSteps := 200000) (disch := first | omega | (simp; done) | fail) [wrapI, leT, leF, ltT, ltF, eqF, nleT, nleF, nltT, nltF]; rfl) ?_
  refine RegO.nil ?_
  refine DW.seq ?_
  refine DW.seq ?_
  refine DW.reg (by simp (maxSteps := 200000) (disch := first | omega | (simp; done) | fail) [wrapI, leT, leF, ltT, ltF, eqF, nleT, nleF, nltT, nltF]; rfl) ?_
  refine DW.block ?_
  refine DW.loopS (α := Nat) (fun i => i ≤ ws.length) (fun i => ws.length - i) (fun i => [(10, vi i), (7, .v (.one (.sl 36 [] 0 i)))]) (fun i => [(36, .ow () 2 i (rD (writesFrom (placeIn g t 36) ws i)))]) [(1, _), (3, _), (5, _), (8, _), (9, _)] [(3, _), (5, _), (16, _)] [] 0 (by simp) (by simp; exact ⟨rfl, rfl, rfl, rfl, rfl⟩) (by simp [writesFrom]; exact ⟨rfl, rfl, rfl⟩) (by simp) (by rfl) ?_
  intro i hi
  refine DW.seq ?_
  refine DW.seq ?_
  refine DW.reg (by simp (maxSteps := 200000) (disch := first | omega | (simp; done) | fail) [wrapI, leT, leF, ltT, ltF, eqF, nleT, nleF, nltT, nltF]; rfl) ?_
  refine DW.condB (by simp (maxSteps := 200000) (disch := first | omega | (simp; done) | fail) [wrapI, leT, leF, ltT, ltF, eqF, nleT, nleF, nltT, nltF]; exact rfl) (fun hc0 => ?_) (fun hc0 => ?_)
  · have hlt : i < ws.length := by simpa using hc0
    have hlt1 : (i : Int) < ws.length := by omega
    have hd := rD_get_ByteArray ws i hlt
    have hw := wr ((i : Int) + 1) (by omega) (by omega)
    have hwa := wr (placeIn g t 36 + (i : Int)) (by omega) (by omega)
    have hR := writesFrom_succ (placeIn g t 36) ws i hlt
    generalize ws[i] = c at hd hR
    have b1 : (i + 1) * 24 ≤ 140737488355328 := by omega
    have b2 : i + 1 ≤ 140737488355328 := by omega
    have b3 : i ≤ 140737488355327 := by omega
    have b4 : (i + 1) * 2 ≤ i * 2 + 2 := by omega
    have hR2 : rD (writesFrom (placeIn g t 36) ws (i + 1)) = rD (writesFrom (placeIn g t 36) ws i) ++ [T.sc (.int .i64 (placeIn g t 36 + i)), T.sc (.string c)] := by rw [hR, rD_append]; rfl
    clear hR
    refine DW.skip ?_
    refine DW.seq ?_
    refine DW.block ?_
    refine DW.reg (by simp [hlt1, hd, hw, hwa, b1, b2, b3, b4]; rfl) ?_
    refine DW.norm [(1, _), (3, _), (5, _), (7, _), (8, _), (9, _), (10, _)] [(36, _), (3, _), (5, _), (16, _)] [] (by simp [hlt1, hd, hw, hwa, b1, b2, b3, b4]; exact ⟨rfl, rfl, rfl, rfl, rfl, rfl, rfl⟩) (by simp [hlt1, hd, hw, hwa, b1, b2, b3, b4]; exact ⟨rfl, rfl, rfl, rfl⟩) (by simp [hlt1, hd, hw, hwa, b1, b2, b3, b4]) (by rfl) ?_
    refine DW.reg (by simp (maxSteps := 200000) (disch := first | omega | (simp; done) | fail) [wrapI, leT, leF, ltT, ltF, eqF, nleT, nleF, nltT, nltF, hlt1, hd, hw, hwa, b1, b2, b3, b4]; rfl) ?_
    exact ⟨i + 1, hlt, by omega, by simp, by simp [hR2], by simp, by rfl⟩
  · have hil : i = ws.length := by
      have : ¬ i < ws.length := by simpa using hc0
      omega
    subst hil
    have h00 : writesFrom (placeIn g t 36) ws ws.length ++ inoWs g t p.Inodes 0 = writesFrom (placeIn g t 36) ws ws.length := by simp [inoWs]
    have h01 : inoWs g t p.Inodes 0 = [] := rfl
    have h02 : (writesFrom (placeIn g t 36) ws ws.length).length = ws.length := writesFrom_len _ _ _
    refine DW.exit ?_
    refine DW.seq ?_
    refine DW.seq ?_
    refine DW.reg (by simp (maxSteps := 200000) (disch := first | omega | (simp; done) | fail) [wrapI, leT, leF, ltT, ltF, eqF, nleT, nleF, nltT, nltF]; rfl) ?_
    refine DW.ghost (Ghost.move (id := 36) (id' := 69) (p := []) (by simp; rfl) (by simp; first | exact ⟨rfl, rfl, rfl⟩ | rfl) (by simp)) ?_
    refine DW.block ?_
    refine DW.loopS (α := Nat) (fun i => i ≤ p.Inodes.length) (fun i => p.Inodes.length - i) (fun i => [(11, vi i), (7, .v (.one (.sl 69 [] 0 (ws.length + 8 * i))))]) (fun i => [(69, .ow () 2 (ws.length + 8 * i) (rD (writesOf (placeIn g t 36) ws ++ inoWs g t p.Inodes i)))]) [(1, _), (3, _), (5, _)] [(3, _), (5, _)] [] 0 (by simp) (by simp [h00, h01, h02]; exact ⟨rfl, rfl, rfl⟩) (by simp [h00, h01, h02]; exact ⟨rfl, rfl⟩) (by simp) (by rfl) ?_
    intro i hi
    refine DW.seq ?_
    refine DW.seq ?_
    refine DW.reg (by simp (maxSteps := 200000) (disch := first | omega | (simp; done) | fail) [wrapI, leT, leF, ltT, ltF, eqF, nleT, nleF, nltT, nltF]; rfl) ?_
    refine DW.condB (by simp (maxSteps := 200000) (disch := first | omega | (simp; done) | fail) [wrapI, leT, leF, ltT, ltF, eqF, nleT, nleF, nltT, nltF]; exact rfl) (fun hc1 => ?_) (fun hc1 => ?_)
    · have hlt : i < p.Inodes.length := by simpa using hc1
      have hlt1 : (i : Int) < p.Inodes.length := by omega
      have hd := rR_drop_Inode p.Inodes i hlt
      have hw := wr ((i : Int) + 1) (by omega) (by omega)
      have hsn := hs _ (List.getElem_mem hlt)
      have hK := inoWs_succ g t p.Inodes i hlt
      have hql := inodeAt_bd (i := (i : Int)) ht (by omega) (by omega)
      generalize p.Inodes[i] = c at hd hsn hK
      obtain ⟨iw, hiw⟩ : ∃ w, w = inoWords c := ⟨_, rfl⟩
      have hSI : Spec Tryz.prog 181 [raInode c] [none] [dr iw] [raInode c] := hiw ▸ specInodeWords_spec c hsn
      have hiwl : iw.length = 8 := by rw [hiw]; exact inoWords_len c
      rw [← hiw] at hK
      have hKl : (writesOf (placeIn g t 36) ws ++ inoWs g t p.Inodes i).length = ws.length + 8 * i := by rw [List.length_append, writesFrom_len, inoWs_len g t _ i hi]
      have hK2 : writesOf (placeIn g t 36) ws ++ inoWs g t p.Inodes (i + 1) = (writesOf (placeIn g t 36) ws ++ inoWs g t p.Inodes i) ++ writesFrom (inodeAt g t i) iw iw.length := by rw [hK, List.append_assoc]
      generalize (writesOf (placeIn g t 36) ws ++ inoWs g t p.Inodes i) = K at *
      generalize hkl : ws.length + 8 * i = kl at *
      generalize hq : inodeAt g t i = q at *
      have hw0 : K ++ writesFrom q iw 0 = K := by simp [writesFrom]
      refine DW.skip ?_
      refine DW.seq ?_
      refine DW.block ?_
      refine DW.seq ?_
      refine DW.regs ?_
      refine RegO.opN 5 (by simp (maxSteps := 200000) (disch := first | omega | (simp; done) | fail) [wrapI, leT, leF, ltT, ltF, eqF, nleT, nleF, nltT, nltF, hlt1, hd, hw]; rfl) ?_
      refine RegO.step rfl (OpStep.callA rfl (by simp (maxSteps := 200000) (disch := first | omega | (simp; done) | fail) [wrapI, leT, leF, ltT, ltF, eqF, nleT, nleF, nltT, nltF, hlt1, hd, hw]; exact ⟨rfl, rfl⟩) (by simp (maxSteps := 200000) (disch := first | omega | (simp; done) | fail) [wrapI, leT, leF, ltT, ltF, eqF, nleT, nleF, nltT, nltF, hlt1, hd, hw]; rfl) (by exact hSI) (by simp) (by simp (maxSteps := 200000) (disch := first | omega | (simp; done) | fail) [wrapI, leT, leF, ltT, ltF, eqF, nleT, nleF, nltT, nltF, hlt1, hd, hw]; rfl)) ?_
      refine RegO.opN 1 (by simp (maxSteps := 200000) (disch := first | omega | (simp; done) | fail) [wrapI, leT, leF, ltT, ltF, eqF, nleT, nleF, nltT, nltF, hlt1, hd, hw]; rfl) ?_
      refine RegO.nil ?_
      refine DW.norm [(1, _), (3, _), (5, _), (7, _), (8, _), (11, _)] [(69, _), (3, _), (5, _), (49, _)] [] (by simp [hlt1, hd, hw]; exact ⟨rfl, rfl, rfl, rfl, rfl, rfl⟩) (by simp [hlt1, hd, hw]; exact ⟨rfl, rfl, rfl, rfl⟩) (by simp [hlt1, hd, hw]) (by rfl) ?_
      refine DW.seq ?_
      refine DW.reg (by simp (maxSteps := 200000) (disch := first | omega | (simp; done) | fail) [wrapI, leT, leF, ltT, ltF, eqF, nleT, nleF, nltT, nltF, hlt1, hd, hw]; rfl) ?_
      refine DW.block ?_
      refine DW.loopS (α := Nat) (fun j => j ≤ iw.length) (fun j => iw.length - j) (fun j => [(12, vi j), (7, .v (.one (.sl 69 [] 0 (kl + j))))]) (fun j => [(69, .ow () 2 (kl + j) (rD (K ++ writesFrom q iw j)))]) [(1, _), (3, _), (5, _), (8, _), (11, _)] [(3, _), (5, _), (49, _)] [] 0 (by simp) (by simp [hw0]; exact ⟨rfl, rfl, rfl, rfl, rfl⟩) (by simp [hw0]; exact ⟨rfl, rfl, rfl⟩) (by simp) (by rfl) ?_
      intro j hj
      refine DW.seq ?_
      refine DW.seq ?_
      refine DW.reg (by simp (maxSteps := 200000) (disch := first | omega | (simp; done) | fail) [wrapI, leT, leF, ltT, ltF, eqF, nleT, nleF, nltT, nltF, hlt1, hd, hw]; rfl) ?_
      refine DW.condB (by simp (maxSteps := 200000) (disch := first | omega | (simp; done) | fail) [wrapI, leT, leF, ltT, ltF, eqF, nleT, nleF, nltT, nltF, hlt1, hd, hw]; exact rfl) (fun hc2 => ?_) (fun hc2 => ?_)
      · have hltj : j < iw.length := by simpa using hc2
        have hltj1 : (j : Int) < iw.length := by omega
        have hdj := rD_get_ByteArray iw j hltj
        have hwj := wr ((j : Int) + 1) (by omega) (by omega)
        have hwq := wr (q + (j : Int)) (by omega) (by omega)
        have hR := writesFrom_succ q iw j hltj
        have hR1 := congrArg (K ++ ·) hR
        simp only [← List.append_assoc] at hR1
        have hJl : (K ++ writesFrom q iw j).length = kl + j := by rw [List.length_append, writesFrom_len, hKl]
        generalize iw[j] = cj at hdj hR1 hR
        generalize K ++ writesFrom q iw j = KK at *
        have b1 : (kl + j + 1) * 24 ≤ 140737488355328 := by omega
        have b2 : kl + j + 1 ≤ 140737488355328 := by omega
        have b3 : kl + j ≤ 140737488355327 := by omega
        have hT := rD_take_Write KK
        have hTl := rD_len_Write KK
        rw [hJl] at hT hTl
        have hR2 : rD (K ++ writesFrom q iw (j + 1)) = rD KK ++ [T.sc (.int .i64 (q + j)), T.sc (.string cj)] := by rw [hR1, rD_append]; rfl
        clear hR1 hR
        refine DW.skip ?_
        refine DW.seq ?_
        refine DW.block ?_
        refine DW.drawn mixed (by kernel_rfl) ?_
        refine RegD.addN 4 (by simp [hlt1, hd, hw, hltj1, hdj, hwj, hwq, b1, b2, b3, hT, hTl, hq]; (first | (simp (disch := omega) only [wrapI]; done) | (simp (disch := omega) only [wrapI]; exact ⟨rfl, rfl⟩) | skip); (first | done | exact ⟨rfl, rfl⟩ | rfl)) ?_
        refine RegD.cert (Cert.callA rfl (by simp) rfl (by decide) (by simp [hlt1, hd, hw, hltj1, hdj, hwj, hwq, b1, b2, b3, hT, hTl, hq]; exact ⟨rfl, rfl⟩) (by simp [hlt1, hd, hw, hltj1, hdj, hwj, hwq, b1, b2, b3, hT, hTl, hq]; rfl) (by exact specInodeAt_spec g t i hg (by omega)) rfl (by simp) (by simp; rfl) rfl) ?_
        refine RegD.addN 7 (by simp [hlt1, hd, hw, hltj1, hdj, hwj, hwq, b1, b2, b3, hT, hTl, hq]; (first | (simp (disch := omega) only [wrapI]; done) | (simp (disch := omega) only [wrapI]; exact ⟨rfl, rfl⟩) | skip); (first | done | exact ⟨rfl, rfl⟩ | rfl)) ?_
        refine RegD.cert (Cert.buildRo (rcs := [.sc (.int .i64 (q + (j : Int))), .sc (.string cj)]) rfl rfl rfl (by decide) (by simp; exact ⟨rfl, rfl⟩) (by simp; rfl) (by simp; rfl) (by rfl) (by decide) (by decide) (by simp [hlt1, hd, hw, hltj1, hdj, hwj, hwq, b1, b2, b3, hT, hTl, hq]; rfl) (by simp [hlt1, hd, hw, hltj1, hdj, hwj, hwq, b1, b2, b3, hT, hTl, hq]; rfl) (by rfl) (by simp)) ?_
        refine RegD.heavyF (by simp) (by simp [hlt1, hd, hw, hltj1, hdj, hwj, hwq, b1, b2, b3, hT, hTl, hq]; rfl) ?_
        refine RegD.addN 1 (by simp [hlt1, hd, hw, hltj1, hdj, hwj, hwq, b1, b2, b3, hT, hTl, hq]; (first | (simp (disch := omega) only [wrapI]; done) | (simp (disch := omega) only [wrapI]; exact ⟨rfl, rfl⟩) | skip); (first | done | exact ⟨rfl, rfl⟩ | rfl)) ?_
        refine RegD.nil ⟨by kernel_rfl, ?_⟩
        refine DW.norm [(1, _), (3, _), (5, _), (7, _), (8, _), (11, _), (12, _)] [(69, _), (3, _), (5, _), (49, _)] [] (by simp [hlt1, hd, hw, hltj1, hdj, hwj, hwq, b1, b2, b3, hT, hTl, hq]; exact ⟨rfl, rfl, rfl, rfl, rfl, rfl, rfl⟩) (by simp [hlt1, hd, hw, hltj1, hdj, hwj, hwq, b1, b2, b3, hT, hTl, hq]; exact ⟨rfl, rfl, rfl, rfl⟩) (by simp [hlt1, hd, hw, hltj1, hdj, hwj, hwq, b1, b2, b3, hT, hTl, hq]) (by rfl) ?_
        refine DW.reg (by simp (maxSteps := 200000) (disch := first | omega | (simp; done) | fail) [wrapI, leT, leF, ltT, ltF, eqF, nleT, nleF, nltT, nltF, hlt1, hd, hw, hltj1, hdj, hwj, hwq, b1, b2, b3, hT, hTl, hq]; rfl) ?_
        exact ⟨j + 1, hltj, by omega, by simp [Nat.add_assoc], by simp [hR2, Nat.add_assoc], by simp, by rfl⟩
      · have hjl : j = iw.length := by
          have : ¬ j < iw.length := by simpa using hc2
          omega
        subst hjl
        refine DW.exit ?_
        refine DW.reg (by simp (maxSteps := 200000) (disch := first | omega | (simp; done) | fail) [wrapI, leT, leF, ltT, ltF, eqF, nleT, nleF, nltT, nltF, hlt1, hd, hw]; rfl) ?_
        exact ⟨i + 1, hlt, by omega, by simp; omega, by simp [hK2]; omega, by simp, by rfl⟩
    · have hil : i = p.Inodes.length := by
        have : ¬ i < p.Inodes.length := by simpa using hc1
        omega
      subst hil
      have hfin : partW g t p = writesOf (placeIn g t 36) ws ++ inoWs g t p.Inodes p.Inodes.length := by unfold partW; rw [← hws]
      rw [hfin]
      have hZl : (writesOf (placeIn g t 36) ws ++ inoWs g t p.Inodes p.Inodes.length).length = ws.length + 8 * p.Inodes.length := by rw [List.length_append, writesFrom_len, inoWs_len g t _ _ (Nat.le_refl _)]
      generalize writesOf (placeIn g t 36) ws ++ inoWs g t p.Inodes p.Inodes.length = Z at *
      have hZT := rD_take_Write Z
      have hZl2 := rD_len_Write Z
      rw [hZl] at hZT hZl2
      refine DW.exit ?_
      refine DW.seq ?_
      refine DW.reg (by simp (maxSteps := 200000) (disch := first | omega | (simp; done) | fail) [wrapI, leT, leF, ltT, ltF, eqF, nleT, nleF, nltT, nltF]; rfl) ?_
      refine DW.ret ?_
      simp [Tryz.results135, hZl, hZT]
theorem implPartWrites_spec (g : Geo) (t : Int) (p : Part) (ht : tenOk g t = true) (hp : NewP g p) : Spec Tryz.prog 82 [raGeo g, ri t, raPart p] [none] [dr (partW g t p)] [raGeo g, ri t, raPart p] := by
  refine Spec.intro Tryz.func82 rfl rfl Tryz.ntmps82 rfl (by simp) ?_
  have hs := hp.simp
  obtain ⟨hg, -, -⟩ := tenIn ht
  have hii := hg.i
  have hlen := hp.l
  have hp0 := placeIn_bd (x := 36) ht (by omega) (by omega)
  have hstl := (stOk_pages hp.st)
  have hok : stOk p.States p.States.length = true := by rw [hstl.1]; exact hp.st
  obtain ⟨ws, hws⟩ : ∃ ws, ws = stWords p.States := ⟨_, rfl⟩
  have hS : Spec Tryz.prog 62 [ra p.States] [none] [dr ws] [ra p.States] := hws ▸ implStatesWords_spec _ hok
  have hwl : ws.length = 2 := by rw [hws]; simp [stWords, hok]
  refine DW.seq ?_
  refine DW.reg (by simp (maxSteps := 200000) (disch := first | omega | (simp; done) | fail) [wrapI, leT, leF, ltT, ltF, eqF, nleT, nleF, nltT, nltF]; rfl) ?_
  refine DW.seq ?_
  refine DW.reg (by simp (maxSteps := 200000) (disch := first | omega | (simp; done) | fail) [wrapI, leT, leF, ltT, ltF, eqF, nleT, nleF, nltT, nltF]; rfl) ?_
  refine DW.ghost (Ghost.nlRow 7 33 2 (by simp) (by simp)) ?_
  refine DW.seq ?_
  refine DW.seq ?_
  refine DW.regs ?_
  refine RegO.opN 2 (by simp (maxSteps := 200000) (disch := first | omega | (simp; done) | fail) [wrapI, leT, leF, ltT, ltF, eqF, nleT, nleF, nltT, nltF]; rfl) ?_
  refine RegO.step rfl (OpStep.callA rfl (by simp (maxSteps := 200000) (disch := first | omega | (simp; done) | fail) [wrapI, leT, leF, ltT, ltF, eqF, nleT, nleF, nltT, nltF]; exact ⟨rfl, rfl⟩) (by simp (maxSteps := 200000) (disch := first | omega | (simp; done) | fail) [wrapI, leT, leF, ltT, ltF, eqF, nleT, nleF, nltT, nltF]; rfl) (by exact hS) (by simp) (by simp (maxSteps := 200000) (disch := first | omega | (simp; done) | fail) [wrapI, leT, leF, ltT, ltF, eqF, nleT, nleF, nltT, nltF]; rfl)) ?_
  refine RegO.opN 2 (by simp (maxSteps := 200000) (disch := first | omega | (simp; done) | fail) [wrapI, leT, leF, ltT, ltF, eqF, nleT, nleF, nltT, nltF]; rfl) ?_
  refine RegO.nil ?_
  refine DW.block ?_
  refine DW.loopS (α := Nat) (fun i => i ≤ ws.length) (fun i => ws.length - i) (fun i => [(19, vi i), (7, .v (.one (.sl 33 [] 0 i)))]) (fun i => [(33, .ow () 2 i (rD (writesFrom (placeIn g t 36) ws i)))]) [(1, _), (3, _), (5, _), (17, _), (18, _)] [(3, _), (5, _), (17, _)] [] 0 (by simp) (by simp; exact ⟨rfl, rfl, rfl, rfl, rfl⟩) (by simp [writesFrom]; exact ⟨rfl, rfl, rfl⟩) (by simp) (by rfl) ?_
  intro i hi
  refine DW.seq ?_
  refine DW.reg (by simp (maxSteps := 200000) (disch := first | omega | (simp; done) | fail) [wrapI, leT, leF, ltT, ltF, eqF, nleT, nleF, nltT, nltF]; rfl) ?_
  refine DW.seq ?_
  refine DW.condB (by simp (maxSteps := 200000) (disch := first | omega | (simp; done) | fail) [wrapI, leT, leF, ltT, ltF, eqF, nleT, nleF, nltT, nltF]; exact rfl) (fun hc0 => ?_) (fun hc0 => ?_)
  · have hlt : i < ws.length := by simpa using hc0
    have hlt1 : (i : Int) < ws.length := by omega
    have hd := rD_get_ByteArray ws i hlt
    have hw := wr ((i : Int) + 1) (by omega) (by omega)
    have hwa := wr (placeIn g t 36 + (i : Int)) (by omega) (by omega)
    have hR := writesFrom_succ (placeIn g t 36) ws i hlt
    generalize ws[i] = c at hd hR
    have b1 : (i + 1) * 24 ≤ 140737488355328 := by omega
    have b2 : i + 1 ≤ 140737488355328 := by omega
    have b3 : i ≤ 140737488355327 := by omega
    have b4 : (i + 1) * 2 ≤ i * 2 + 2 := by omega
    have hR2 : rD (writesFrom (placeIn g t 36) ws (i + 1)) = rD (writesFrom (placeIn g t 36) ws i) ++ [T.sc (.int .i64 (placeIn g t 36 + i)), T.sc (.string c)] := by rw [hR, rD_append]; rfl
    clear hR
    refine DW.skip ?_
    refine DW.seq ?_
    refine DW.block ?_
    refine DW.seq ?_
    refine DW.reg (by simp (maxSteps := 200000) (disch := first | omega | (simp; done) | fail) [wrapI, leT, leF, ltT, ltF, eqF, nleT, nleF, nltT, nltF, hlt1, hd, hw, hwa, b1, b2, b3, b4]; rfl) ?_
    refine DW.regs ?_
    refine RegO.opN 3 (by simp [hlt1, hd, hw, hwa, b1, b2, b3, b4]; rfl) ?_
    refine RegO.step rfl (OpStep.callA rfl (by simp [hlt1, hd, hw, hwa, b1, b2, b3, b4]; exact ⟨rfl, rfl⟩) (by simp [hlt1, hd, hw, hwa, b1, b2, b3, b4]; rfl) (by exact statesAt_spec _ _) (by simp) (by simp [hlt1, hd, hw, hwa, b1, b2, b3, b4]; rfl)) ?_
    refine RegO.opN 7 (by simp [hlt1, hd, hw, hwa, b1, b2, b3, b4]; rfl) ?_
    refine RegO.nil ?_
    refine DW.norm [(1, _), (3, _), (5, _), (7, _), (17, _), (18, _), (19, _)] [(33, _), (3, _), (5, _), (17, _)] [] (by simp [hlt1, hd, hw, hwa, b1, b2, b3, b4]; exact ⟨rfl, rfl, rfl, rfl, rfl, rfl, rfl⟩) (by simp [hlt1, hd, hw, hwa, b1, b2, b3, b4]; exact ⟨rfl, rfl, rfl, rfl⟩) (by simp [hlt1, hd, hw, hwa, b1, b2, b3, b4]) (by rfl) ?_
    refine DW.reg (by simp (maxSteps := 200000) (disch := first | omega | (simp; done) | fail) [wrapI, leT, leF, ltT, ltF, eqF, nleT, nleF, nltT, nltF, hlt1, hd, hw, hwa, b1, b2, b3, b4]; rfl) ?_
    exact ⟨i + 1, hlt, by omega, by simp, by simp [hR2], by simp, by rfl⟩
  · have hil : i = ws.length := by
      have : ¬ i < ws.length := by simpa using hc0
      omega
    subst hil
    have h00 : writesFrom (placeIn g t 36) ws ws.length ++ inoWs g t p.Inodes 0 = writesFrom (placeIn g t 36) ws ws.length := by simp [inoWs]
    have h01 : inoWs g t p.Inodes 0 = [] := rfl
    have h02 : (writesFrom (placeIn g t 36) ws ws.length).length = ws.length := writesFrom_len _ _ _
    refine DW.exit ?_
    refine DW.seq ?_
    refine DW.seq ?_
    refine DW.reg (by simp (maxSteps := 200000) (disch := first | omega | (simp; done) | fail) [wrapI, leT, leF, ltT, ltF, eqF, nleT, nleF, nltT, nltF]; rfl) ?_
    refine DW.ghost (Ghost.move (id := 33) (id' := 61) (p := []) (by simp; rfl) (by simp; first | exact ⟨rfl, rfl, rfl⟩ | rfl) (by simp)) ?_
    refine DW.block ?_
    refine DW.loopS (α := Nat) (fun i => i ≤ p.Inodes.length) (fun i => p.Inodes.length - i) (fun i => [(38, vi i), (7, .v (.one (.sl 61 [] 0 (ws.length + 8 * i))))]) (fun i => [(61, .ow () 2 (ws.length + 8 * i) (rD (writesOf (placeIn g t 36) ws ++ inoWs g t p.Inodes i)))]) [(1, _), (3, _), (36, _), (37, _)] [(3, _), (5, _)] [] 0 (by simp) (by simp [h00, h01, h02]; exact ⟨rfl, rfl, rfl, rfl⟩) (by simp [h00, h01, h02]; exact ⟨rfl, rfl⟩) (by simp) (by rfl) ?_
    intro i hi
    refine DW.seq ?_
    refine DW.reg (by simp (maxSteps := 200000) (disch := first | omega | (simp; done) | fail) [wrapI, leT, leF, ltT, ltF, eqF, nleT, nleF, nltT, nltF]; rfl) ?_
    refine DW.seq ?_
    refine DW.condB (by simp (maxSteps := 200000) (disch := first | omega | (simp; done) | fail) [wrapI, leT, leF, ltT, ltF, eqF, nleT, nleF, nltT, nltF]; exact rfl) (fun hc1 => ?_) (fun hc1 => ?_)
    · have hlt : i < p.Inodes.length := by simpa using hc1
      have hlt1 : (i : Int) < p.Inodes.length := by omega
      have hd := rR_drop_Inode p.Inodes i hlt
      have hw := wr ((i : Int) + 1) (by omega) (by omega)
      have hsn := hs _ (List.getElem_mem hlt)
      have hK := inoWs_succ g t p.Inodes i hlt
      have hql := inodeAt_bd (i := (i : Int)) ht (by omega) (by omega)
      generalize p.Inodes[i] = c at hd hsn hK
      obtain ⟨iw, hiw⟩ : ∃ w, w = inoWords c := ⟨_, rfl⟩
      have hSI : Spec Tryz.prog 140 [raInode c] [none] [dr iw] [raInode c] := hiw ▸ implInodeText_spec c hsn
      have hiwl : iw.length = 8 := by rw [hiw]; exact inoWords_len c
      rw [← hiw] at hK
      have hKl : (writesOf (placeIn g t 36) ws ++ inoWs g t p.Inodes i).length = ws.length + 8 * i := by rw [List.length_append, writesFrom_len, inoWs_len g t _ i hi]
      have hK2 : writesOf (placeIn g t 36) ws ++ inoWs g t p.Inodes (i + 1) = (writesOf (placeIn g t 36) ws ++ inoWs g t p.Inodes i) ++ writesFrom (inodeAt g t i) iw iw.length := by rw [hK, List.append_assoc]
      generalize (writesOf (placeIn g t 36) ws ++ inoWs g t p.Inodes i) = K at *
      generalize hkl : ws.length + 8 * i = kl at *
      generalize hq : inodeAt g t i = q at *
      have hw0 : K ++ writesFrom q iw 0 = K := by simp [writesFrom]
      refine DW.skip ?_
      refine DW.seq ?_
      refine DW.block ?_
      refine DW.seq ?_
      refine DW.reg (by simp [hlt1, hd, hw]; rfl) ?_
      refine DW.norm [(1, _), (3, _), (7, _), (10, _), (11, _), (36, _), (37, _), (38, _)] [(61, _), (3, _), (5, _), (11, _)] [] (by simp [hlt1, hd, hw]; exact ⟨rfl, rfl, rfl, rfl, rfl, rfl, rfl, rfl⟩) (by simp [hlt1, hd, hw]; exact ⟨rfl, rfl, rfl, rfl⟩) (by simp [hlt1, hd, hw]) (by rfl) ?_
      refine DW.seq ?_
      refine DW.regs ?_
      refine RegO.opN 1 (by simp (maxSteps := 200000) (disch := first | omega | (simp; done) | fail) [wrapI, leT, leF, ltT, ltF, eqF, nleT, nleF, nltT, nltF, hlt1, hd, hw]; rfl) ?_
      refine RegO.step rfl (OpStep.callA rfl (by simp (maxSteps := 200000) (disch := first | omega | (simp; done) | fail) [wrapI, leT, leF, ltT, ltF, eqF, nleT, nleF, nltT, nltF, hlt1, hd, hw]; exact ⟨rfl, rfl⟩) (by simp (maxSteps := 200000) (disch := first | omega | (simp; done) | fail) [wrapI, leT, leF, ltT, ltF, eqF, nleT, nleF, nltT, nltF, hlt1, hd, hw]; rfl) (by exact hSI) (by simp) (by simp (maxSteps := 200000) (disch := first | omega | (simp; done) | fail) [wrapI, leT, leF, ltT, ltF, eqF, nleT, nleF, nltT, nltF, hlt1, hd, hw]; rfl)) ?_
      refine RegO.opN 2 (by simp (maxSteps := 200000) (disch := first | omega | (simp; done) | fail) [wrapI, leT, leF, ltT, ltF, eqF, nleT, nleF, nltT, nltF, hlt1, hd, hw]; rfl) ?_
      refine RegO.nil ?_
      refine DW.norm [(1, _), (3, _), (7, _), (10, _), (36, _), (37, _), (38, _), (44, _), (45, _), (46, _)] [(61, _), (3, _), (5, _), (44, _)] [] (by simp [hlt1, hd, hw]; exact ⟨rfl, rfl, rfl, rfl, rfl, rfl, rfl, rfl, rfl, rfl⟩) (by simp [hlt1, hd, hw]; exact ⟨rfl, rfl, rfl, rfl⟩) (by simp [hlt1, hd, hw]) (by rfl) ?_
      refine DW.block ?_
      refine DW.loopS (α := Nat) (fun j => j ≤ iw.length) (fun j => iw.length - j) (fun j => [(46, vi j), (7, .v (.one (.sl 61 [] 0 (kl + j))))]) (fun j => [(61, .ow () 2 (kl + j) (rD (K ++ writesFrom q iw j)))]) [(1, _), (3, _), (10, _), (36, _), (37, _), (38, _), (44, _), (45, _)] [(3, _), (5, _), (44, _)] [] 0 (by simp) (by simp [hw0]; exact ⟨rfl, rfl, rfl, rfl, rfl, rfl, rfl, rfl⟩) (by simp [hw0]; exact ⟨rfl, rfl, rfl⟩) (by simp) (by rfl) ?_
      intro j hj
      refine DW.seq ?_
      refine DW.reg (by simp (maxSteps := 200000) (disch := first | omega | (simp; done) | fail) [wrapI, leT, leF, ltT, ltF, eqF, nleT, nleF, nltT, nltF, hlt1, hd, hw]; rfl) ?_
      refine DW.seq ?_
      refine DW.condB (by simp (maxSteps := 200000) (disch := first | omega | (simp; done) | fail) [wrapI, leT, leF, ltT, ltF, eqF, nleT, nleF, nltT, nltF, hlt1, hd, hw]; exact rfl) (fun hc2 => ?_) (fun hc2 => ?_)
      · have hltj : j < iw.length := by simpa using hc2
        have hltj1 : (j : Int) < iw.length := by omega
        have hdj := rD_get_ByteArray iw j hltj
        have hwj := wr ((j : Int) + 1) (by omega) (by omega)
        have hwq := wr (q + (j : Int)) (by omega) (by omega)
        have hR := writesFrom_succ q iw j hltj
        have hR1 := congrArg (K ++ ·) hR
        simp only [← List.append_assoc] at hR1
        have hJl : (K ++ writesFrom q iw j).length = kl + j := by rw [List.length_append, writesFrom_len, hKl]
        generalize iw[j] = cj at hdj hR1 hR
        generalize K ++ writesFrom q iw j = KK at *
        have b1 : (kl + j + 1) * 24 ≤ 140737488355328 := by omega
        have b2 : kl + j + 1 ≤ 140737488355328 := by omega
        have b3 : kl + j ≤ 140737488355327 := by omega
        have hT := rD_take_Write KK
        have hTl := rD_len_Write KK
        rw [hJl] at hT hTl
        have hR2 : rD (K ++ writesFrom q iw (j + 1)) = rD KK ++ [T.sc (.int .i64 (q + j)), T.sc (.string cj)] := by rw [hR1, rD_append]; rfl
        clear hR1 hR
        refine DW.skip ?_
        refine DW.seq ?_
        refine DW.block ?_
        refine DW.seq ?_
        refine DW.reg (by simp (maxSteps := 200000) (disch := first | omega | (simp; done) | fail) [wrapI, leT, leF, ltT, ltF, eqF, nleT, nleF, nltT, nltF, hlt1, hd, hw, hltj1, hdj, hwj, hwq, b1, b2, b3, hT, hTl, hq]; rfl) ?_
        refine DW.regs ?_
        refine RegO.opN 4 (by simp [hlt1, hd, hw, hltj1, hdj, hwj, hwq, b1, b2, b3, hT, hTl, hq]; rfl) ?_
        refine RegO.step rfl (OpStep.callA rfl (by simp [hlt1, hd, hw, hltj1, hdj, hwj, hwq, b1, b2, b3, hT, hTl, hq]; exact ⟨rfl, rfl⟩) (by simp [hlt1, hd, hw, hltj1, hdj, hwj, hwq, b1, b2, b3, hT, hTl, hq]; rfl) (by exact implInodeAt_spec g t i hg (by omega)) (by simp) (by simp [hlt1, hd, hw, hltj1, hdj, hwj, hwq, b1, b2, b3, hT, hTl, hq]; rfl)) ?_
        refine RegO.opN 7 (by simp [hlt1, hd, hw, hltj1, hdj, hwj, hwq, b1, b2, b3, hT, hTl, hq]; rfl) ?_
        refine RegO.nil ?_
        refine DW.norm [(1, _), (3, _), (7, _), (10, _), (36, _), (37, _), (38, _), (44, _), (45, _), (46, _)] [(61, _), (3, _), (5, _), (44, _)] [] (by simp [hlt1, hd, hw, hltj1, hdj, hwj, hwq, b1, b2, b3, hT, hTl, hq]; exact ⟨rfl, rfl, rfl, rfl, rfl, rfl, rfl, rfl, rfl, rfl⟩) (by simp [hlt1, hd, hw, hltj1, hdj, hwj, hwq, b1, b2, b3, hT, hTl, hq]; exact ⟨rfl, rfl, rfl, rfl⟩) (by simp [hlt1, hd, hw, hltj1, hdj, hwj, hwq, b1, b2, b3, hT, hTl, hq]) (by rfl) ?_
        refine DW.reg (by simp (maxSteps := 200000) (disch := first | omega | (simp; done) | fail) [wrapI, leT, leF, ltT, ltF, eqF, nleT, nleF, nltT, nltF, hlt1, hd, hw, hltj1, hdj, hwj, hwq, b1, b2, b3, hT, hTl, hq]; rfl) ?_
        exact ⟨j + 1, hltj, by omega, by simp [Nat.add_assoc], by simp [hR2, Nat.add_assoc], by simp, by rfl⟩
      · have hjl : j = iw.length := by
          have : ¬ j < iw.length := by simpa using hc2
          omega
        subst hjl
        refine DW.exit ?_
        refine DW.reg (by simp (maxSteps := 200000) (disch := first | omega | (simp; done) | fail) [wrapI, leT, leF, ltT, ltF, eqF, nleT, nleF, nltT, nltF, hlt1, hd, hw]; rfl) ?_
        exact ⟨i + 1, hlt, by omega, by simp; omega, by simp [hK2]; omega, by simp, by rfl⟩
    · have hil : i = p.Inodes.length := by
        have : ¬ i < p.Inodes.length := by simpa using hc1
        omega
      subst hil
      have hfin : partW g t p = writesOf (placeIn g t 36) ws ++ inoWs g t p.Inodes p.Inodes.length := by unfold partW; rw [← hws]
      rw [hfin]
      have hZl : (writesOf (placeIn g t 36) ws ++ inoWs g t p.Inodes p.Inodes.length).length = ws.length + 8 * p.Inodes.length := by rw [List.length_append, writesFrom_len, inoWs_len g t _ _ (Nat.le_refl _)]
      generalize writesOf (placeIn g t 36) ws ++ inoWs g t p.Inodes p.Inodes.length = Z at *
      have hZT := rD_take_Write Z
      have hZl2 := rD_len_Write Z
      rw [hZl] at hZT hZl2
      refine DW.exit ?_
      refine DW.seq ?_
      refine DW.reg (by simp (maxSteps := 200000) (disch := first | omega | (simp; done) | fail) [wrapI, leT, leF, ltT, ltF, eqF, nleT, nleF, nltT, nltF]; rfl) ?_
      refine DW.ret ?_
      simp [Tryz.results82, hZl, hZT]
end Go.Proofs.YtjjdjkkhhcbogaaGreat.DM
