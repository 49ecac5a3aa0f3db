import Derived.Test.YtjjdjkkhhcbogaaGreatFG9
namespace Go.Proofs.YtjjdjkkhhcbogaaGreat.DM
set_option linter.unusedVariables false
set_option linter.unusedSimpArgs false
set_option maxRecDepth 4000
set_option maxHeartbeats 8000000
theorem placeIn_bd {g : Geo} {t x : Int} (h : tenOk g t = true) (h0 : 0 ≤ x) (h1 : x ≤ 1000) : 0 ≤ placeIn g t x ∧ placeIn g t x ≤ 2000 := by
  obtain ⟨hi, ht0, ht1⟩ := tenIn h
  have hit := hi.t
  have hip := hi.p
  have hii := hi.i
  have hpb : 0 ≤ pw g ∧ pw g ≤ 134 := by unfold pw; omega
  have hmb : 0 ≤ t * pw g ∧ t * pw g ≤ 2 * 134 := ⟨Int.mul_nonneg (by omega) (by omega), Int.le_trans (Int.mul_le_mul_of_nonneg_right (show t ≤ 2 by omega) (by omega)) (by omega)⟩
  unfold placeIn
  rw [if_pos h]; omega
theorem pageAt_bd {g : Geo} {t p : Int} (h : tenOk g t = true) (h0 : 0 ≤ p) (h1 : p < g.Pages) : 0 ≤ pageAt g t p ∧ pageAt g t p ≤ 2000 := by
  have hip := (tenIn h).1.p
  have hii := (tenIn h).1.i
  unfold pageAt
  rw [if_pos (inB_iff.2 ⟨h0, by omega⟩)]
  exact placeIn_bd h (by omega) (by omega)
theorem writesFrom_at (x : Int) (ws : List ByteArray) (n : Nat) (h : 0 ≤ x) : ∀ w ∈ writesFrom x ws n, 0 ≤ w.At := fun w hw => by
  simp only [writesFrom, List.mem_map, List.mem_range] at hw
  obtain ⟨k, -, rfl⟩ := hw
  show 0 ≤ x + (k : Int); omega
theorem zeroPages_at {g : Geo} {t : Int} : ∀ (D : List Int), (∀ p ∈ D, 0 ≤ pageAt g t p) → ∀ w ∈ zeroPages g t D, 0 ≤ w.At
  | [], _, w, hw => by simp [zeroPages] at hw
  | p :: D, h, w, hw => by
    rw [zeroPages] at hw
    rcases List.mem_append.1 hw with hw | hw
    · exact writesFrom_at _ _ _ (h p List.mem_cons_self) w hw
    · exact zeroPages_at D (fun q hq => h q (List.mem_cons_of_mem _ hq)) w hw
theorem zeroPages_len (g : Geo) (t : Int) : ∀ D : List Int, (zeroPages g t D).length = 4 * D.length
  | [] => rfl
  | p :: D => by rw [zeroPages, List.length_append, writesFrom_len, zero4_len, zeroPages_len g t D, List.length_cons]; omega
theorem zeroPages_succ (g : Geo) (t : Int) (D : List Int) (i : Nat) (h : i < D.length) : zeroPages g t (D.take (i + 1)) = zeroPages g t (D.take i) ++ writesOf (pageAt g t D[i]) zero4 := by rw [take_succ' D i h, zeroPages_snoc]
theorem stOk_withSt {st : List Int} {n : Int} (D : List Int) (h : stOk st n = true) : stOk (withSt st 0 D) (withSt st 0 D).length = true := by
  simp only [stOk, Bool.and_eq_true, decide_eq_true_eq] at h ⊢
  have hl := withSt_len 0 D st
  refine ⟨withSt_all 0 rfl D st h.1, trivial, ?_⟩
  rw [hl, h.2.1]; exact h.2.2
theorem stOk_pages {st : List Int} {n : Int} (h : stOk st n = true) : (st.length : Int) = n ∧ st.length ≤ 12 := by
  simp only [stOk, Bool.and_eq_true, decide_eq_true_eq, inB_iff] at h
  omega

theorem specScrubSteps_spec (g : Geo) (t : Int) (p : Part) (hsl : p.States.length < 2 ^ 36) : Spec Tryz.prog 10 [raGeo g, ri t, raPart p] [none] [dr (scrub g t p.States)] [raGeo g, ri t, raPart p] := by
  refine Spec.intro Tryz.func10 rfl rfl Tryz.ntmps10 rfl (by simp) ?_
  obtain ⟨D, hD⟩ : ∃ D, D = pagesWith p.States 1 := ⟨_, rfl⟩
  have hSD : Spec Tryz.prog 45 [ra p.States, ri 1] [none] [dr D] [ra p.States, ri 1] := hD ▸ specPagesWith_spec p.States 1 hsl
  have hDl36 : D.length ≤ p.States.length := by rw [hD]; exact pagesW_len _ _ _
  have h4 : wordsB (zeros 32) = zero4 := rfl
  have hpz : padB ByteArray.empty 32 = zeros 32 := by apply bytes_ext; simp [padB, zeros]
  refine DW.seq ?_
  refine DW.reg (by simp (maxSteps := 200000) (disch := first | omega | (simp; done) | fail) [wrapI, leT, leF, ltT, ltF, eqF, nleT, nleF, nltT, nltF]; rfl) ?_
  refine DW.seq ?_
  refine DW.regs ?_
  refine RegO.opN 2 (by simp (maxSteps := 200000) (disch := first | omega | (simp; done) | fail) [wrapI, leT, leF, ltT, ltF, eqF, nleT, nleF, nltT, nltF]; rfl) ?_
  refine RegO.step rfl (OpStep.callA rfl (by simp (maxSteps := 200000) (disch := first | omega | (simp; done) | fail) [wrapI, leT, leF, ltT, ltF, eqF, nleT, nleF, nltT, nltF]; exact ⟨rfl, rfl⟩) (by simp (maxSteps := 200000) (disch := first | omega | (simp; done) | fail) [wrapI, leT, leF, ltT, ltF, eqF, nleT, nleF, nltT, nltF]; rfl) (by exact hSD) (by simp) (by simp (maxSteps := 200000) (disch := first | omega | (simp; done) | fail) [wrapI, leT, leF, ltT, ltF, eqF, nleT, nleF, nltT, nltF]; rfl)) ?_
  refine RegO.opN 1 (by simp (maxSteps := 200000) (disch := first | omega | (simp; done) | fail) [wrapI, leT, leF, ltT, ltF, eqF, nleT, nleF, nltT, nltF]; rfl) ?_
  refine RegO.nil ?_
  refine DW.seq ?_
  refine DW.seq ?_
  have hsp : (D = []) ∨ (¬ D = [] ∧ tenOk g t = false) ∨ (¬ D = [] ∧ tenOk g t = true ∧ stOk p.States g.Pages = false) ∨ (¬ D = [] ∧ tenOk g t = true ∧ stOk p.States g.Pages = true) := by
    by_cases hd0 : D = [] <;> cases tenOk g t <;> cases stOk p.States g.Pages <;> simp [hd0]
  rcases hsp with g2 | ⟨g2, g0⟩ | ⟨g2, g0, g1⟩ | ⟨g2, g0, g1⟩
  · have hD0 : (pagesWith p.States 1).length = 0 := by rw [← hD, g2]; rfl
    have hres : scrub g t p.States = [] := by simp [scrub, hD0]
    refine DW.reg (by simp (maxSteps := 200000) (disch := first | omega | (simp; done) | fail) [wrapI, leT, leF, ltT, ltF, eqF, nleT, nleF, nltT, nltF, g2]; rfl) ?_
    refine DW.condT (by simp (maxSteps := 200000) (disch := first | omega | (simp; done) | fail) [wrapI, leT, leF, ltT, ltF, eqF, nleT, nleF, nltT, nltF, g2]) ?_
    refine DW.seq ?_
    refine DW.reg (by simp (maxSteps := 200000) (disch := first | omega | (simp; done) | fail) [wrapI, leT, leF, ltT, ltF, eqF, nleT, nleF, nltT, nltF, g2]; rfl) ?_
    refine DW.ghost (Ghost.nlRow 6 1000 3 (by simp) (by simp)) ?_
    refine DW.ret ?_
    rw [hres]
    simp [Tryz.results10]
  · have hc0 : placeIn g t 0 < 0 := by simp [placeIn, g0]
    have hDl0 : ((D.length : Int) == 0) = false := by simp; exact g2
    have hres : scrub g t p.States = [] := by simp [scrub, g0]
    refine DW.regs ?_
    refine RegO.opN 6 (by simp (maxSteps := 200000) (disch := first | omega | (simp; done) | fail) [wrapI, leT, leF, ltT, ltF, eqF, nleT, nleF, nltT, nltF, g2, hDl0, hc0, g0]; rfl) ?_
    refine RegO.stepT (by simp (maxSteps := 200000) (disch := first | omega | (simp; done) | fail) [wrapI, leT, leF, ltT, ltF, eqF, nleT, nleF, nltT, nltF, g2, hDl0, hc0, g0]) (OpStep.callA rfl (by simp (maxSteps := 200000) (disch := first | omega | (simp; done) | fail) [wrapI, leT, leF, ltT, ltF, eqF, nleT, nleF, nltT, nltF, g2, hDl0, hc0, g0]; exact ⟨rfl, rfl⟩) (by simp (maxSteps := 200000) (disch := first | omega | (simp; done) | fail) [wrapI, leT, leF, ltT, ltF, eqF, nleT, nleF, nltT, nltF, g2, hDl0, hc0, g0]; rfl) (by exact specCommitAt_spec _ _) (by simp) (by simp (maxSteps := 200000) (disch := first | omega | (simp; done) | fail) [wrapI, leT, leF, ltT, ltF, eqF, nleT, nleF, nltT, nltF, g2, hDl0, hc0, g0]; rfl)) ?_
    refine RegO.opN 10 (by simp (maxSteps := 200000) (disch := first | omega | (simp; done) | fail) [wrapI, leT, leF, ltT, ltF, eqF, nleT, nleF, nltT, nltF, g2, hDl0, hc0, g0]; rfl) ?_
    refine RegO.nil ?_
    refine DW.condT (by simp (maxSteps := 200000) (disch := first | omega | (simp; done) | fail) [wrapI, leT, leF, ltT, ltF, eqF, nleT, nleF, nltT, nltF, g2, hDl0, hc0, g0]) ?_
    refine DW.seq ?_
    refine DW.reg (by simp (maxSteps := 200000) (disch := first | omega | (simp; done) | fail) [wrapI, leT, leF, ltT, ltF, eqF, nleT, nleF, nltT, nltF, g2, hDl0, hc0, g0]; rfl) ?_
    refine DW.ghost (Ghost.nlRow 6 1000 3 (by simp) (by simp)) ?_
    refine DW.ret ?_
    rw [hres]
    simp [Tryz.results10]
  · have hDl0 : ((D.length : Int) == 0) = false := by simp; exact g2
    have hc0 : ¬ placeIn g t 0 < 0 := by have := placeIn_bd (x := 0) g0 (by omega) (by omega); omega
    have hres : scrub g t p.States = [] := by simp [scrub, g0, g1]
    refine DW.regs ?_
    refine RegO.opN 6 (by simp (maxSteps := 200000) (disch := first | omega | (simp; done) | fail) [wrapI, leT, leF, ltT, ltF, eqF, nleT, nleF, nltT, nltF, g2, hDl0, hc0, g0, g1]; rfl) ?_
    refine RegO.stepT (by simp (maxSteps := 200000) (disch := first | omega | (simp; done) | fail) [wrapI, leT, leF, ltT, ltF, eqF, nleT, nleF, nltT, nltF, g2, hDl0, hc0, g0, g1]) (OpStep.callA rfl (by simp (maxSteps := 200000) (disch := first | omega | (simp; done) | fail) [wrapI, leT, leF, ltT, ltF, eqF, nleT, nleF, nltT, nltF, g2, hDl0, hc0, g0, g1]; exact ⟨rfl, rfl⟩) (by simp (maxSteps := 200000) (disch := first | omega | (simp; done) | fail) [wrapI, leT, leF, ltT, ltF, eqF, nleT, nleF, nltT, nltF, g2, hDl0, hc0, g0, g1]; rfl) (by exact specCommitAt_spec _ _) (by simp) (by simp (maxSteps := 200000) (disch := first | omega | (simp; done) | fail) [wrapI, leT, leF, ltT, ltF, eqF, nleT, nleF, nltT, nltF, g2, hDl0, hc0, g0, g1]; rfl)) ?_
    refine RegO.opN 7 (by simp (maxSteps := 200000) (disch := first | omega | (simp; done) | fail) [wrapI, leT, leF, ltT, ltF, eqF, nleT, nleF, nltT, nltF, g2, hDl0, hc0, g0, g1]; rfl) ?_
    refine RegO.stepT (by simp (maxSteps := 200000) (disch := first | omega | (simp; done) | fail) [wrapI, leT, leF, ltT, ltF, eqF, nleT, nleF, nltT, nltF, g2, hDl0, hc0, g0, g1]) (OpStep.callA rfl (by simp (maxSteps := 200000) (disch := first | omega | (simp; done) | fail) [wrapI, leT, leF, ltT, ltF, eqF, nleT, nleF, nltT, nltF, g2, hDl0, hc0, g0, g1]; exact ⟨rfl, rfl⟩) (by simp (maxSteps := 200000) (disch := first | omega | (simp; done) | fail) [wrapI, leT, leF, ltT, ltF, eqF, nleT, nleF, nltT, nltF, g2, hDl0, hc0, g0, g1]; rfl) (by exact specStatesOk_spec _ _ hsl) (by simp) (by simp (maxSteps := 200000) (disch := first | omega | (simp; done) | fail) [wrapI, leT, leF, ltT, ltF, eqF, nleT, nleF, nltT, nltF, g2, hDl0, hc0, g0, g1]; rfl)) ?_
    refine RegO.opN 2 (by simp (maxSteps := 200000) (disch := first | omega | (simp; done) | fail) [wrapI, leT, leF, ltT, ltF, eqF, nleT, nleF, nltT, nltF, g2, hDl0, hc0, g0, g1]; rfl) ?_
    refine RegO.nil ?_
    refine DW.condT (by simp (maxSteps := 200000) (disch := first | omega | (simp; done) | fail) [wrapI, leT, leF, ltT, ltF, eqF, nleT, nleF, nltT, nltF, g2, hDl0, hc0, g0, g1]) ?_
    refine DW.seq ?_
    refine DW.reg (by simp (maxSteps := 200000) (disch := first | omega | (simp; done) | fail) [wrapI, leT, leF, ltT, ltF, eqF, nleT, nleF, nltT, nltF, g2, hDl0, hc0, g0, g1]; rfl) ?_
    refine DW.ghost (Ghost.nlRow 6 1000 3 (by simp) (by simp)) ?_
    refine DW.ret ?_
    rw [hres]
    simp [Tryz.results10]
  · have h0D : 0 < D.length := List.length_pos_iff.2 g2
    obtain ⟨hg, -, -⟩ := tenIn g0
    obtain ⟨hpl, hp12⟩ := stOk_pages g1
    have hDin : ∀ q ∈ D, 0 ≤ q ∧ q < p.States.length := fun q hq => by rw [hD] at hq; exact pagesW_in _ _ _ q hq
    have hDat : ∀ q ∈ D, 0 ≤ pageAt g t q ∧ pageAt g t q ≤ 2000 := fun q hq => pageAt_bd g0 (hDin q hq).1 (by have := (hDin q hq).2; omega)
    have hp0 := placeIn_bd (x := 36) g0 (by omega) (by omega)
    have hok2 := stOk_withSt D g1
    have hwl : (stWords (withSt p.States 0 D)).length = 2 := by simp [stWords, hok2]
    have hA1 : (zeroPages g t D).length ≤ 2 ^ 36 := by rw [zeroPages_len]; omega
    have hA2 := zeroPages_at D fun q hq => (hDat q hq).1
    have hA3 : 0 < (zeroPages g t D).length := by rw [zeroPages_len]; omega
    obtain ⟨W, hW⟩ : ∃ W, W = (writesOf (placeIn g t 36) (stWords (withSt p.States 0 D))) := ⟨_, rfl⟩
    have hSW : Spec Tryz.prog 51 [raGeo g, ri t, ra (withSt p.States 0 D)] [none] [dr W] [raGeo g, ri t, ra (withSt p.States 0 D)] := hW ▸ l21States_spec g t _ hok2 hp0.1 (by omega)
    have hWl : W.length = 2 := by rw [hW, writesFrom_len, hwl]
    have hB1 : W.length ≤ 2 ^ 36 := by omega
    have hB2 : ∀ w ∈ W, 0 ≤ w.At := by rw [hW]; exact writesFrom_at _ _ _ hp0.1
    have hB3 : 0 < W.length := by omega
    have hdA := durable_len (zeroPages g t D)
    have hdB := durable_len W
    rw [zeroPages_len] at hdA
    have hDl12 : D.length ≤ 12 := by rw [hD]; exact Nat.le_trans (pagesW_len _ _ _) hp12
    obtain ⟨X, hXe⟩ : ∃ X, X = durable (zeroPages g t D) := ⟨_, rfl⟩
    obtain ⟨Y, hYe⟩ : ∃ Y, Y = durable W := ⟨_, rfl⟩
    have hSX : Spec Tryz.prog 50 [ra (zeroPages g t D)] [none] [dr X] [ra (zeroPages g t D)] := hXe ▸ specDurable_spec _ hA1 hA2 hA3
    have hSY : Spec Tryz.prog 50 [ra W] [none] [dr Y] [ra W] := hYe ▸ specDurable_spec _ hB1 hB2 hB3
    rw [← hXe] at hdA
    rw [← hYe] at hdB
    have c1 : (X.length + Y.length) * 32 ≤ 140737488355328 := by omega
    have c2 : X.length + Y.length ≤ 140737488355328 := by omega
    have hX := rD_take_Step X
    have hXl := rD_len_Step X
    have hY := rD_take_Step Y
    have hYl := rD_len_Step Y
    have hTR : List.take ((X.length + Y.length) * 3) (rD X ++ rD Y) = rD X ++ rD Y := List.take_of_length_le (by rw [List.length_append, hXl, hYl]; omega)
    have hl3 : (X.length + Y.length) * 3 ≤ X.length * 3 + Y.length * 3 := by omega
    have hRR := rD_append X Y
    have hres : scrub g t p.States = X ++ Y := by
      simp only [scrub, g0, g1, if_true, ← hD, ← hW, ← hXe, ← hYe]
      rw [if_neg (by omega)]
    have hc0 : ¬ placeIn g t 0 < 0 := by have := placeIn_bd (x := 0) g0 (by omega) (by omega); omega
    have hDl0 : ((D.length : Int) == 0) = false := by simp; exact g2
    refine DW.regs ?_
    refine RegO.opN 6 (by simp (maxSteps := 200000) (disch := first | omega | (simp; done) | fail) [wrapI, leT, leF, ltT, ltF, eqF, nleT, nleF, nltT, nltF, g2, hDl0, hc0, g0, g1, c1, c2, hX, hXl, hY, hYl]; rfl) ?_
    refine RegO.stepT (by simp (maxSteps := 200000) (disch := first | omega | (simp; done) | fail) [wrapI, leT, leF, ltT, ltF, eqF, nleT, nleF, nltT, nltF, g2, hDl0, hc0, g0, g1, c1, c2, hX, hXl, hY, hYl]) (OpStep.callA rfl (by simp (maxSteps := 200000) (disch := first | omega | (simp; done) | fail) [wrapI, leT, leF, ltT, ltF, eqF, nleT, nleF, nltT, nltF, g2, hDl0, hc0, g0, g1, c1, c2, hX, hXl, hY, hYl]; exact ⟨rfl, rfl⟩) (by simp (maxSteps := 200000) (disch := first | omega | (simp; done) | fail) [wrapI, leT, leF, ltT, ltF, eqF, nleT, nleF, nltT, nltF, g2, hDl0, hc0, g0, g1, c1, c2, hX, hXl, hY, hYl]; rfl) (by exact specCommitAt_spec _ _) (by simp) (by simp (maxSteps := 200000) (disch := first | omega | (simp; done) | fail) [wrapI, leT, leF, ltT, ltF, eqF, nleT, nleF, nltT, nltF, g2, hDl0, hc0, g0, g1, c1, c2, hX, hXl, hY, hYl]; rfl)) ?_
    refine RegO.opN 7 (by simp (maxSteps := 200000) (disch := first | omega | (simp; done) | fail) [wrapI, leT, leF, ltT, ltF, eqF, nleT, nleF, nltT, nltF, g2, hDl0, hc0, g0, g1, c1, c2, hX, hXl, hY, hYl]; rfl) ?_
    refine RegO.stepT (by simp (maxSteps := 200000) (disch := first | omega | (simp; done) | fail) [wrapI, leT, leF, ltT, ltF, eqF, nleT, nleF, nltT, nltF, g2, hDl0, hc0, g0, g1, c1, c2, hX, hXl, hY, hYl]) (OpStep.callA rfl (by simp (maxSteps := 200000) (disch := first | omega | (simp; done) | fail) [wrapI, leT, leF, ltT, ltF, eqF, nleT, nleF, nltT, nltF, g2, hDl0, hc0, g0, g1, c1, c2, hX, hXl, hY, hYl]; exact ⟨rfl, rfl⟩) (by simp (maxSteps := 200000) (disch := first | omega | (simp; done) | fail) [wrapI, leT, leF, ltT, ltF, eqF, nleT, nleF, nltT, nltF, g2, hDl0, hc0, g0, g1, c1, c2, hX, hXl, hY, hYl]; rfl) (by exact specStatesOk_spec _ _ hsl) (by simp) (by simp (maxSteps := 200000) (disch := first | omega | (simp; done) | fail) [wrapI, leT, leF, ltT, ltF, eqF, nleT, nleF, nltT, nltF, g2, hDl0, hc0, g0, g1, c1, c2, hX, hXl, hY, hYl]; rfl)) ?_
    refine RegO.opN 2 (by simp (maxSteps := 200000) (disch := first | omega | (simp; done) | fail) [wrapI, leT, leF, ltT, ltF, eqF, nleT, nleF, nltT, nltF, g2, hDl0, hc0, g0, g1, c1, c2, hX, hXl, hY, hYl]; rfl) ?_
    refine RegO.nil ?_
    refine DW.condF (by simp (maxSteps := 200000) (disch := first | omega | (simp; done) | fail) [wrapI, leT, leF, ltT, ltF, eqF, nleT, nleF, nltT, nltF, g2, hDl0, hc0, g0, g1, c1, c2, hX, hXl, hY, hYl]) ?_
    refine DW.skip ?_
    refine DW.seq ?_
    refine DW.reg (by simp (maxSteps := 200000) (disch := first | omega | (simp; done) | fail) [wrapI, leT, leF, ltT, ltF, eqF, nleT, nleF, nltT, nltF, g2, hDl0, hc0, g0, g1, c1, c2, hX, hXl, hY, hYl]; rfl) ?_
    refine DW.ghost (Ghost.nlRow 8 48 2 (by simp) (by simp)) ?_
    refine DW.seq ?_
    refine DW.seq ?_
    refine DW.reg (by simp (maxSteps := 200000) (disch := first | omega | (simp; done) | fail) [wrapI, leT, leF, ltT, ltF, eqF, nleT, nleF, nltT, nltF, g2, hDl0, hc0, g0, g1, c1, c2, hX, hXl, hY, hYl]; rfl) ?_
    refine DW.block ?_
    refine DW.loopS (α := Nat) (fun i => i ≤ D.length) (fun i => D.length - i) (fun i => [(9, vi i), (8, .v (.one (.sl 48 [] 0 (zeroPages g t (D.take i)).length)))]) (fun i => [(48, .ow () 2 (zeroPages g t (D.take i)).length (rD (zeroPages g t (D.take i))))]) [(1, _), (3, _), (5, _), (7, _)] [(3, _), (5, _), (13, _)] [] 0 (by simp) (by simp [zeroPages]; exact ⟨rfl, rfl, rfl, rfl⟩) (by simp [zeroPages]; exact ⟨rfl, rfl, rfl⟩) (by simp) (by rfl) ?_
    intro i hi
    refine DW.seq ?_
    refine DW.seq ?_
    refine DW.reg (by simp (maxSteps := 200000) (disch := first | omega | (simp; done) | fail) [wrapI, leT, leF, ltT, ltF, eqF, nleT, nleF, nltT, nltF, g2, hDl0, hc0, g0, g1, c1, c2, hX, hXl, hY, hYl]; rfl) ?_
    refine DW.condB (by simp (maxSteps := 200000) (disch := first | omega | (simp; done) | fail) [wrapI, leT, leF, ltT, ltF, eqF, nleT, nleF, nltT, nltF, g2, hDl0, hc0, g0, g1, c1, c2, hX, hXl, hY, hYl]; exact rfl) (fun hc1 => ?_) (fun hc1 => ?_)
    · have hlt : i < D.length := by simpa using hc1
      have hlt1 : (i : Int) < D.length := by omega
      have hd := rD_get_Int D i hlt
      have hw := wr ((i : Int) + 1) (by omega) (by omega)
      have hR := zeroPages_succ g t D i hlt
      have hKl : (zeroPages g t (D.take i)).length = 4 * (D.take i).length := zeroPages_len _ _ _
      rw [List.length_take] at hKl
      have hcm := List.getElem_mem hlt
      generalize D[i] = c at hd hR hcm
      have hcx := hDin c hcm
      have hc1 : 0 ≤ c ∧ c ≤ 1000 := by omega
      have hc2 := (hDat c hcm).1
      have hc3 : pageAt g t c ≤ 1000000 := by have := (hDat c hcm).2; omega
      generalize (zeroPages g t (D.take i)) = K at *
      have b1 : (K.length + 4) * 24 ≤ 140737488355328 := by omega
      have b2 : K.length + 4 ≤ 140737488355328 := by omega
      have b3 : K.length ≤ 140737488355324 := by omega
      have hT := rD_take_Write K
      have hTl := rD_len_Write K
      have hz4 : zero4.length = 4 := zero4_len
      have hRl2 : (zeroPages g t (D.take (i + 1))).length = K.length + 4 := by rw [hR]; simp [zero4_len]
      have hR2 : rD (zeroPages g t (D.take (i + 1))) = rD K ++ rD (writesOf (pageAt g t c) zero4) := by rw [hR, rD_append]
      have hz4t := writesR_take (pageAt g t c) zero4 4
      have hz4l := writesR_len (pageAt g t c) zero4 4
      have hz4u : List.take 8 (rD (writesFrom (pageAt g t c) zero4 4)) = rD (writesFrom (pageAt g t c) zero4 4) := hz4t
      have hz4e : writesOf (pageAt g t c) zero4 = writesFrom (pageAt g t c) zero4 4 := by rw [← zero4_len]
      rw [hz4e] at hR2
      clear hR
      refine DW.skip ?_
      refine DW.seq ?_
      refine DW.block ?_
      refine DW.drawn mixed (by kernel_rfl) ?_
      refine RegD.addN 7 (by simp [g2, hDl0, hc0, g0, g1, c1, c2, hX, hXl, hY, hYl, hlt1, hw, hd, b1, b2, b3, hT, hTl, hz4, hz4t, hz4l, hz4u, hz4e]; (first | (simp (disch := omega) only [wrapI]; done) | (simp (disch := omega) only [wrapI]; exact ⟨rfl, rfl⟩) | skip); (first | done | exact ⟨rfl, rfl⟩ | rfl)) ?_
      refine RegD.cert (Cert.callA rfl (by simp) rfl (by decide) (by simp [g2, hDl0, hc0, g0, g1, c1, c2, hX, hXl, hY, hYl, hlt1, hw, hd, b1, b2, b3, hT, hTl, hz4, hz4t, hz4l, hz4u, hz4e]; exact ⟨rfl, rfl⟩) (by simp [g2, hDl0, hc0, g0, g1, c1, c2, hX, hXl, hY, hYl, hlt1, hw, hd, b1, b2, b3, hT, hTl, hz4, hz4t, hz4l, hz4u, hz4e]; rfl) (by exact zeroText_spec 32 (by omega)) rfl (by simp) (by simp; rfl) rfl) ?_
      refine RegD.cert (Cert.callHA rfl (by simp) rfl (by decide) (by simp [g2, hDl0, hc0, g0, g1, c1, c2, hX, hXl, hY, hYl, hlt1, hw, hd, b1, b2, b3, hT, hTl, hz4, hz4t, hz4l, hz4u, hz4e]; exact ⟨rfl, rfl⟩) (by simp [g2, hDl0, hc0, g0, g1, c1, c2, hX, hXl, hY, hYl, hlt1, hw, hd, b1, b2, b3, hT, hTl, hz4, hz4t, hz4l, hz4u, hz4e]; rfl) (by exact (h4 ▸ l21Page_spec g t c (zeros 32) hg hc1 (by simp) hc2 hc3)) rfl (by simp) (by simp) (by simp; rfl) rfl) ?_
      refine RegD.heavyF (by simp) (by simp [g2, hDl0, hc0, g0, g1, c1, c2, hX, hXl, hY, hYl, hlt1, hw, hd, b1, b2, b3, hT, hTl, hz4, hz4t, hz4l, hz4u, hz4e]; rfl) ?_
      refine RegD.addN 1 (by simp [g2, hDl0, hc0, g0, g1, c1, c2, hX, hXl, hY, hYl, hlt1, hw, hd, b1, b2, b3, hT, hTl, hz4, hz4t, hz4l, hz4u, hz4e]; (first | (simp (disch := omega) only [wrapI]; done) | (simp (disch := omega) only [wrapI]; exact ⟨rfl, rfl⟩) | skip); (first | done | exact ⟨rfl, rfl⟩ | rfl)) ?_
      refine RegD.nil ⟨by kernel_rfl, ?_⟩
      refine DW.norm [(1, _), (3, _), (5, _), (7, _), (8, _), (9, _)] [(48, _), (3, _), (5, _), (13, _)] [] (by simp [g2, hDl0, hc0, g0, g1, c1, c2, hX, hXl, hY, hYl, hlt1, hw, hd, b1, b2, b3, hT, hTl, hz4, hz4t, hz4l, hz4u, hz4e]; exact ⟨rfl, rfl, rfl, rfl, rfl, rfl⟩) (by simp [g2, hDl0, hc0, g0, g1, c1, c2, hX, hXl, hY, hYl, hlt1, hw, hd, b1, b2, b3, hT, hTl, hz4, hz4t, hz4l, hz4u, hz4e]; exact ⟨rfl, rfl, rfl, rfl⟩) (by simp [g2, hDl0, hc0, g0, g1, c1, c2, hX, hXl, hY, hYl, hlt1, hw, hd, b1, b2, b3, hT, hTl, hz4, hz4t, hz4l, hz4u, hz4e]) (by rfl) ?_
      refine DW.reg (by simp (maxSteps := 200000) (disch := first | omega | (simp; done) | fail) [wrapI, leT, leF, ltT, ltF, eqF, nleT, nleF, nltT, nltF, g2, hDl0, hc0, g0, g1, c1, c2, hX, hXl, hY, hYl, hlt1, hw, hd, b1, b2, b3, hT, hTl, hz4, hz4t, hz4l, hz4u, hz4e]; rfl) ?_
      exact ⟨i + 1, hlt, by omega, by simp [hRl2], by simp [hR2, hRl2], by simp, by rfl⟩
    · have hil : i = D.length := by
        have : ¬ i < D.length := by simpa using hc1
        omega
      subst hil
      rw [List.take_length]
      refine DW.exit ?_
      refine DW.seq ?_
      refine DW.regs ?_
      refine RegO.opN 1 (by simp (maxSteps := 200000) (disch := first | omega | (simp; done) | fail) [wrapI, leT, leF, ltT, ltF, eqF, nleT, nleF, nltT, nltF, g2, hDl0, hc0, g0, g1, c1, c2, hX, hXl, hY, hYl]; rfl) ?_
      refine RegO.step rfl (OpStep.callA rfl (by simp (maxSteps := 200000) (disch := first | omega | (simp; done) | fail) [wrapI, leT, leF, ltT, ltF, eqF, nleT, nleF, nltT, nltF, g2, hDl0, hc0, g0, g1, c1, c2, hX, hXl, hY, hYl]; exact ⟨rfl, rfl⟩) (by simp (maxSteps := 200000) (disch := first | omega | (simp; done) | fail) [wrapI, leT, leF, ltT, ltF, eqF, nleT, nleF, nltT, nltF, g2, hDl0, hc0, g0, g1, c1, c2, hX, hXl, hY, hYl]; rfl) (by exact hSX) (by simp) (by simp (maxSteps := 200000) (disch := first | omega | (simp; done) | fail) [wrapI, leT, leF, ltT, ltF, eqF, nleT, nleF, nltT, nltF, g2, hDl0, hc0, g0, g1, c1, c2, hX, hXl, hY, hYl]; rfl)) ?_
      refine RegO.opN 1 (by simp (maxSteps := 200000) (disch := first | omega | (simp; done) | fail) [wrapI, leT, leF, ltT, ltF, eqF, nleT, nleF, nltT, nltF, g2, hDl0, hc0, g0, g1, c1, c2, hX, hXl, hY, hYl]; rfl) ?_
      refine RegO.nil ?_
      refine DW.seq ?_
      refine DW.drawn mixed (by kernel_rfl) ?_
      refine RegD.addN 6 (by simp [g2, hDl0, hc0, g0, g1, c1, c2, hX, hXl, hY, hYl]; (first | (simp (disch := omega) only [wrapI]; done) | (simp (disch := omega) only [wrapI]; exact ⟨rfl, rfl⟩) | skip); (first | done | exact ⟨rfl, rfl⟩ | rfl)) ?_
      refine RegD.cert (Cert.callHA rfl (by simp) rfl (by decide) (by simp [g2, hDl0, hc0, g0, g1, c1, c2, hX, hXl, hY, hYl]; exact ⟨rfl, rfl⟩) (by simp [g2, hDl0, hc0, g0, g1, c1, c2, hX, hXl, hY, hYl]; rfl) (by exact specWithState_spec _ _ _ (by omega) (by omega)) rfl (by simp) (by simp) (by simp; rfl) rfl) ?_
      refine RegD.cert (Cert.callHA rfl (by simp) rfl (by decide) (by simp [g2, hDl0, hc0, g0, g1, c1, c2, hX, hXl, hY, hYl]; exact ⟨rfl, rfl⟩) (by simp [g2, hDl0, hc0, g0, g1, c1, c2, hX, hXl, hY, hYl]; rfl) (by exact hSW) rfl (by simp) (by simp) (by simp; rfl) rfl) ?_
      refine RegD.cert (Cert.callHA rfl (by simp) rfl (by decide) (by simp [g2, hDl0, hc0, g0, g1, c1, c2, hX, hXl, hY, hYl]; exact ⟨rfl, rfl⟩) (by simp [g2, hDl0, hc0, g0, g1, c1, c2, hX, hXl, hY, hYl]; rfl) (by exact hSY) rfl (by simp) (by simp) (by simp; rfl) rfl) ?_
      refine RegD.heavyF (by simp) (by simp [g2, hDl0, hc0, g0, g1, c1, c2, hX, hXl, hY, hYl]; rfl) ?_
      refine RegD.addN 1 (by simp [g2, hDl0, hc0, g0, g1, c1, c2, hX, hXl, hY, hYl]; (first | (simp (disch := omega) only [wrapI]; done) | (simp (disch := omega) only [wrapI]; exact ⟨rfl, rfl⟩) | skip); (first | done | exact ⟨rfl, rfl⟩ | rfl)) ?_
      refine RegD.nil ⟨by kernel_rfl, ?_⟩
      refine DW.ret ?_
      rw [hres]
      simp [Tryz.results10, hRR, hTR, hl3, rD_append]
theorem implScrubSteps_spec (g : Geo) (t : Int) (p : Part) (hsl : p.States.length < 2 ^ 36) : Spec Tryz.prog 13 [raGeo g, ri t, raPart p] [none] [dr (scrub g t p.States)] [raGeo g, ri t, raPart p] := by
  refine Spec.intro Tryz.func13 rfl rfl Tryz.ntmps13 rfl (by simp) ?_
  obtain ⟨D, hD⟩ : ∃ D, D = pagesWith p.States 1 := ⟨_, rfl⟩
  have hSD : Spec Tryz.prog 55 [ra p.States, ri 1] [none] [dr D] [ra p.States, ri 1] := hD ▸ implPagesWith_spec p.States 1 hsl
  have hDl36 : D.length ≤ p.States.length := by rw [hD]; exact pagesW_len _ _ _
  have h4 : wordsB (zeros 32) = zero4 := rfl
  have hpz : padB ByteArray.empty 32 = zeros 32 := by apply bytes_ext; simp [padB, zeros]
  refine DW.seq ?_
  refine DW.reg (by simp (maxSteps := 200000) (disch := first | omega | (simp; done) | fail) [wrapI, leT, leF, ltT, ltF, eqF, nleT, nleF, nltT, nltF]; rfl) ?_
  refine DW.seq ?_
  refine DW.regs ?_
  refine RegO.opN 2 (by simp (maxSteps := 200000) (disch := first | omega | (simp; done) | fail) [wrapI, leT, leF, ltT, ltF, eqF, nleT, nleF, nltT, nltF]; rfl) ?_
  refine RegO.step rfl (OpStep.callA rfl (by simp (maxSteps := 200000) (disch := first | omega | (simp; done) | fail) [wrapI, leT, leF, ltT, ltF, eqF, nleT, nleF, nltT, nltF]; exact ⟨rfl, rfl⟩) (by simp (maxSteps := 200000) (disch := first | omega | (simp; done) | fail) [wrapI, leT, leF, ltT, ltF, eqF, nleT, nleF, nltT, nltF]; rfl) (by exact hSD) (by simp) (by simp (maxSteps := 200000) (disch := first | omega | (simp; done) | fail) [wrapI, leT, leF, ltT, ltF, eqF, nleT, nleF, nltT, nltF]; rfl)) ?_
  refine RegO.opN 1 (by simp (maxSteps := 200000) (disch := first | omega | (simp; done) | fail) [wrapI, leT, leF, ltT, ltF, eqF, nleT, nleF, nltT, nltF]; rfl) ?_
  refine RegO.nil ?_
  refine DW.seq ?_
  refine DW.seq ?_
  have hsp : (tenOk g t = false) ∨ (tenOk g t = true ∧ stOk p.States g.Pages = false) ∨ (tenOk g t = true ∧ stOk p.States g.Pages = true ∧ D = []) ∨ (tenOk g t = true ∧ stOk p.States g.Pages = true ∧ ¬ D = []) := by
    by_cases hd0 : D = [] <;> cases tenOk g t <;> cases stOk p.States g.Pages <;> simp [hd0]
  rcases hsp with g0 | ⟨g0, g1⟩ | ⟨g0, g1, g2⟩ | ⟨g0, g1, g2⟩
  · have hres : scrub g t p.States = [] := by simp [scrub, g0]
    refine DW.regs ?_
    refine RegO.opN 2 (by simp (maxSteps := 200000) (disch := first | omega | (simp; done) | fail) [wrapI, leT, leF, ltT, ltF, eqF, nleT, nleF, nltT, nltF, g0]; rfl) ?_
    refine RegO.step rfl (OpStep.callA rfl (by simp (maxSteps := 200000) (disch := first | omega | (simp; done) | fail) [wrapI, leT, leF, ltT, ltF, eqF, nleT, nleF, nltT, nltF, g0]; exact ⟨rfl, rfl⟩) (by simp (maxSteps := 200000) (disch := first | omega | (simp; done) | fail) [wrapI, leT, leF, ltT, ltF, eqF, nleT, nleF, nltT, nltF, g0]; rfl) (by exact isTenant_spec _ _) (by simp) (by simp (maxSteps := 200000) (disch := first | omega | (simp; done) | fail) [wrapI, leT, leF, ltT, ltF, eqF, nleT, nleF, nltT, nltF, g0]; rfl)) ?_
    refine RegO.opN 14 (by simp (maxSteps := 200000) (disch := first | omega | (simp; done) | fail) [wrapI, leT, leF, ltT, ltF, eqF, nleT, nleF, nltT, nltF, g0]; rfl) ?_
    refine RegO.nil ?_
    refine DW.condT (by simp (maxSteps := 200000) (disch := first | omega | (simp; done) | fail) [wrapI, leT, leF, ltT, ltF, eqF, nleT, nleF, nltT, nltF, g0]) ?_
    refine DW.seq ?_
    refine DW.reg (by simp (maxSteps := 200000) (disch := first | omega | (simp; done) | fail) [wrapI, leT, leF, ltT, ltF, eqF, nleT, nleF, nltT, nltF, g0]; rfl) ?_
    refine DW.ghost (Ghost.nlRow 6 1000 3 (by simp) (by simp)) ?_
    refine DW.ret ?_
    rw [hres]
    simp [Tryz.results13]
  · have hres : scrub g t p.States = [] := by simp [scrub, g0, g1]
    refine DW.regs ?_
    refine RegO.opN 2 (by simp (maxSteps := 200000) (disch := first | omega | (simp; done) | fail) [wrapI, leT, leF, ltT, ltF, eqF, nleT, nleF, nltT, nltF, g0, g1]; rfl) ?_
    refine RegO.step rfl (OpStep.callA rfl (by simp (maxSteps := 200000) (disch := first | omega | (simp; done) | fail) [wrapI, leT, leF, ltT, ltF, eqF, nleT, nleF, nltT, nltF, g0, g1]; exact ⟨rfl, rfl⟩) (by simp (maxSteps := 200000) (disch := first | omega | (simp; done) | fail) [wrapI, leT, leF, ltT, ltF, eqF, nleT, nleF, nltT, nltF, g0, g1]; rfl) (by exact isTenant_spec _ _) (by simp) (by simp (maxSteps := 200000) (disch := first | omega | (simp; done) | fail) [wrapI, leT, leF, ltT, ltF, eqF, nleT, nleF, nltT, nltF, g0, g1]; rfl)) ?_
    refine RegO.opN 6 (by simp (maxSteps := 200000) (disch := first | omega | (simp; done) | fail) [wrapI, leT, leF, ltT, ltF, eqF, nleT, nleF, nltT, nltF, g0, g1]; rfl) ?_
    refine RegO.stepT (by simp (maxSteps := 200000) (disch := first | omega | (simp; done) | fail) [wrapI, leT, leF, ltT, ltF, eqF, nleT, nleF, nltT, nltF, g0, g1]) (OpStep.callA rfl (by simp (maxSteps := 200000) (disch := first | omega | (simp; done) | fail) [wrapI, leT, leF, ltT, ltF, eqF, nleT, nleF, nltT, nltF, g0, g1]; exact ⟨rfl, rfl⟩) (by simp (maxSteps := 200000) (disch := first | omega | (simp; done) | fail) [wrapI, leT, leF, ltT, ltF, eqF, nleT, nleF, nltT, nltF, g0, g1]; rfl) (by exact implStatesOk_spec _ _ hsl) (by simp) (by simp (maxSteps := 200000) (disch := first | omega | (simp; done) | fail) [wrapI, leT, leF, ltT, ltF, eqF, nleT, nleF, nltT, nltF, g0, g1]; rfl)) ?_
    refine RegO.opN 7 (by simp (maxSteps := 200000) (disch := first | omega | (simp; done) | fail) [wrapI, leT, leF, ltT, ltF, eqF, nleT, nleF, nltT, nltF, g0, g1]; rfl) ?_
    refine RegO.nil ?_
    refine DW.condT (by simp (maxSteps := 200000) (disch := first | omega | (simp; done) | fail) [wrapI, leT, leF, ltT, ltF, eqF, nleT, nleF, nltT, nltF, g0, g1]) ?_
    refine DW.seq ?_
    refine DW.reg (by simp (maxSteps := 200000) (disch := first | omega | (simp; done) | fail) [wrapI, leT, leF, ltT, ltF, eqF, nleT, nleF, nltT, nltF, g0, g1]; rfl) ?_
    refine DW.ghost (Ghost.nlRow 6 1000 3 (by simp) (by simp)) ?_
    refine DW.ret ?_
    rw [hres]
    simp [Tryz.results13]
  · have hD0 : (pagesWith p.States 1).length = 0 := by rw [← hD, g2]; rfl
    have hres : scrub g t p.States = [] := by simp [scrub, hD0]
    refine DW.regs ?_
    refine RegO.opN 2 (by simp (maxSteps := 200000) (disch := first | omega | (simp; done) | fail) [wrapI, leT, leF, ltT, ltF, eqF, nleT, nleF, nltT, nltF, g0, g1, g2]; rfl) ?_
    refine RegO.step rfl (OpStep.callA rfl (by simp (maxSteps := 200000) (disch := first | omega | (simp; done) | fail) [wrapI, leT, leF, ltT, ltF, eqF, nleT, nleF, nltT, nltF, g0, g1, g2]; exact ⟨rfl, rfl⟩) (by simp (maxSteps := 200000) (disch := first | omega | (simp; done) | fail) [wrapI, leT, leF, ltT, ltF, eqF, nleT, nleF, nltT, nltF, g0, g1, g2]; rfl) (by exact isTenant_spec _ _) (by simp) (by simp (maxSteps := 200000) (disch := first | omega | (simp; done) | fail) [wrapI, leT, leF, ltT, ltF, eqF, nleT, nleF, nltT, nltF, g0, g1, g2]; rfl)) ?_
    refine RegO.opN 6 (by simp (maxSteps := 200000) (disch := first | omega | (simp; done) | fail) [wrapI, leT, leF, ltT, ltF, eqF, nleT, nleF, nltT, nltF, g0, g1, g2]; rfl) ?_
    refine RegO.stepT (by simp (maxSteps := 200000) (disch := first | omega | (simp; done) | fail) [wrapI, leT, leF, ltT, ltF, eqF, nleT, nleF, nltT, nltF, g0, g1, g2]) (OpStep.callA rfl (by simp (maxSteps := 200000) (disch := first | omega | (simp; done) | fail) [wrapI, leT, leF, ltT, ltF, eqF, nleT, nleF, nltT, nltF, g0, g1, g2]; exact ⟨rfl, rfl⟩) (by simp (maxSteps := 200000) (disch := first | omega | (simp; done) | fail) [wrapI, leT, leF, ltT, ltF, eqF, nleT, nleF, nltT, nltF, g0, g1, g2]; rfl) (by exact implStatesOk_spec _ _ hsl) (by simp) (by simp (maxSteps := 200000) (disch := first | omega | (simp; done) | fail) [wrapI, leT, leF, ltT, ltF, eqF, nleT, nleF, nltT, nltF, g0, g1, g2]; rfl)) ?_
    refine RegO.opN 7 (by simp (maxSteps := 200000) (disch := first | omega | (simp; done) | fail) [wrapI, leT, leF, ltT, ltF, eqF, nleT, nleF, nltT, nltF, g0, g1, g2]; rfl) ?_
    refine RegO.nil ?_
    refine DW.condT (by simp (maxSteps := 200000) (disch := first | omega | (simp; done) | fail) [wrapI, leT, leF, ltT, ltF, eqF, nleT, nleF, nltT, nltF, g0, g1, g2]) ?_
    refine DW.seq ?_
    refine DW.reg (by simp (maxSteps := 200000) (disch := first | omega | (simp; done) | fail) [wrapI, leT, leF, ltT, ltF, eqF, nleT, nleF, nltT, nltF, g0, g1, g2]; rfl) ?_
    refine DW.ghost (Ghost.nlRow 6 1000 3 (by simp) (by simp)) ?_
    refine DW.ret ?_
    rw [hres]
    simp [Tryz.results13]
  · have h0D : 0 < D.length := List.length_pos_iff.2 g2
    obtain ⟨hg, -, -⟩ := tenIn g0
    obtain ⟨hpl, hp12⟩ := stOk_pages g1
    have hDin : ∀ q ∈ D, 0 ≤ q ∧ q < p.States.length := fun q hq => by rw [hD] at hq; exact pagesW_in _ _ _ q hq
    have hDat : ∀ q ∈ D, 0 ≤ pageAt g t q ∧ pageAt g t q ≤ 2000 := fun q hq => pageAt_bd g0 (hDin q hq).1 (by have := (hDin q hq).2; omega)
    have hp0 := placeIn_bd (x := 36) g0 (by omega) (by omega)
    have hok2 := stOk_withSt D g1
    have hwl : (stWords (withSt p.States 0 D)).length = 2 := by simp [stWords, hok2]
    have hA1 : (zeroPages g t D).length ≤ 2 ^ 36 := by rw [zeroPages_len]; omega
    have hA2 := zeroPages_at D fun q hq => (hDat q hq).1
    have hA3 : 0 < (zeroPages g t D).length := by rw [zeroPages_len]; omega
    obtain ⟨W, hW⟩ : ∃ W, W = (writesOf (placeIn g t 36) (stWords (withSt p.States 0 D))) := ⟨_, rfl⟩
    have hSW : Spec Tryz.prog 58 [ri (placeIn g t 36), ra (stWords (withSt p.States 0 D))] [none] [dr W] [ri (placeIn g t 36), ra (stWords (withSt p.States 0 D))] := hW ▸ impl_writesAt_spec _ _ hp0.1 (by omega) (by rw [hwl]; omega)
    have hWl : W.length = 2 := by rw [hW, writesFrom_len, hwl]
    have hB1 : W.length ≤ 2 ^ 36 := by omega
    have hB2 : ∀ w ∈ W, 0 ≤ w.At := by rw [hW]; exact writesFrom_at _ _ _ hp0.1
    have hB3 : 0 < W.length := by omega
    have hdA := durable_len (zeroPages g t D)
    have hdB := durable_len W
    rw [zeroPages_len] at hdA
    have hDl12 : D.length ≤ 12 := by rw [hD]; exact Nat.le_trans (pagesW_len _ _ _) hp12
    obtain ⟨X, hXe⟩ : ∃ X, X = durable (zeroPages g t D) := ⟨_, rfl⟩
    obtain ⟨Y, hYe⟩ : ∃ Y, Y = durable W := ⟨_, rfl⟩
    have hSX : Spec Tryz.prog 64 [ra (zeroPages g t D)] [none] [dr X] [ra (zeroPages g t D)] := hXe ▸ implDurable_spec _ hA1 hA2 hA3
    have hSY : Spec Tryz.prog 64 [ra W] [none] [dr Y] [ra W] := hYe ▸ implDurable_spec _ hB1 hB2 hB3
    rw [← hXe] at hdA
    rw [← hYe] at hdB
    have c1 : (X.length + Y.length) * 32 ≤ 140737488355328 := by omega
    have c2 : X.length + Y.length ≤ 140737488355328 := by omega
    have hX := rD_take_Step X
    have hXl := rD_len_Step X
    have hY := rD_take_Step Y
    have hYl := rD_len_Step Y
    have hTR : List.take ((X.length + Y.length) * 3) (rD X ++ rD Y) = rD X ++ rD Y := List.take_of_length_le (by rw [List.length_append, hXl, hYl]; omega)
    have hl3 : (X.length + Y.length) * 3 ≤ X.length * 3 + Y.length * 3 := by omega
    have hRR := rD_append X Y
    have hres : scrub g t p.States = X ++ Y := by
      simp only [scrub, g0, g1, if_true, ← hD, ← hW, ← hXe, ← hYe]
      rw [if_neg (by omega)]
    have hc0 : ¬ placeIn g t 0 < 0 := by have := placeIn_bd (x := 0) g0 (by omega) (by omega); omega
    have hDl0 : ((D.length : Int) == 0) = false := by simp; exact g2
    refine DW.regs ?_
    refine RegO.opN 2 (by simp (maxSteps := 200000) (disch := first | omega | (simp; done) | fail) [wrapI, leT, leF, ltT, ltF, eqF, nleT, nleF, nltT, nltF, g0, g1, g2, hDl0, c1, c2, hX, hXl, hY, hYl]; rfl) ?_
    refine RegO.step rfl (OpStep.callA rfl (by simp (maxSteps := 200000) (disch := first | omega | (simp; done) | fail) [wrapI, leT, leF, ltT, ltF, eqF, nleT, nleF, nltT, nltF, g0, g1, g2, hDl0, c1, c2, hX, hXl, hY, hYl]; exact ⟨rfl, rfl⟩) (by simp (maxSteps := 200000) (disch := first | omega | (simp; done) | fail) [wrapI, leT, leF, ltT, ltF, eqF, nleT, nleF, nltT, nltF, g0, g1, g2, hDl0, c1, c2, hX, hXl, hY, hYl]; rfl) (by exact isTenant_spec _ _) (by simp) (by simp (maxSteps := 200000) (disch := first | omega | (simp; done) | fail) [wrapI, leT, leF, ltT, ltF, eqF, nleT, nleF, nltT, nltF, g0, g1, g2, hDl0, c1, c2, hX, hXl, hY, hYl]; rfl)) ?_
    refine RegO.opN 6 (by simp (maxSteps := 200000) (disch := first | omega | (simp; done) | fail) [wrapI, leT, leF, ltT, ltF, eqF, nleT, nleF, nltT, nltF, g0, g1, g2, hDl0, c1, c2, hX, hXl, hY, hYl]; rfl) ?_
    refine RegO.stepT (by simp (maxSteps := 200000) (disch := first | omega | (simp; done) | fail) [wrapI, leT, leF, ltT, ltF, eqF, nleT, nleF, nltT, nltF, g0, g1, g2, hDl0, c1, c2, hX, hXl, hY, hYl]) (OpStep.callA rfl (by simp (maxSteps := 200000) (disch := first | omega | (simp; done) | fail) [wrapI, leT, leF, ltT, ltF, eqF, nleT, nleF, nltT, nltF, g0, g1, g2, hDl0, c1, c2, hX, hXl, hY, hYl]; exact ⟨rfl, rfl⟩) (by simp (maxSteps := 200000) (disch := first | omega | (simp; done) | fail) [wrapI, leT, leF, ltT, ltF, eqF, nleT, nleF, nltT, nltF, g0, g1, g2, hDl0, c1, c2, hX, hXl, hY, hYl]; rfl) (by exact implStatesOk_spec _ _ hsl) (by simp) (by simp (maxSteps := 200000) (disch := first | omega | (simp; done) | fail) [wrapI, leT, leF, ltT, ltF, eqF, nleT, nleF, nltT, nltF, g0, g1, g2, hDl0, c1, c2, hX, hXl, hY, hYl]; rfl)) ?_
    refine RegO.opN 7 (by simp (maxSteps := 200000) (disch := first | omega | (simp; done) | fail) [wrapI, leT, leF, ltT, ltF, eqF, nleT, nleF, nltT, nltF, g0, g1, g2, hDl0, c1, c2, hX, hXl, hY, hYl]; rfl) ?_
    refine RegO.nil ?_
    refine DW.condF (by simp (maxSteps := 200000) (disch := first | omega | (simp; done) | fail) [wrapI, leT, leF, ltT, ltF, eqF, nleT, nleF, nltT, nltF, g0, g1, g2, hDl0, c1, c2, hX, hXl, hY, hYl]) ?_
    refine DW.skip ?_
    refine DW.seq ?_
    refine DW.reg (by simp (maxSteps := 200000) (disch := first | omega | (simp; done) | fail) [wrapI, leT, leF, ltT, ltF, eqF, nleT, nleF, nltT, nltF, g0, g1, g2, hDl0, c1, c2, hX, hXl, hY, hYl]; rfl) ?_
    refine DW.ghost (Ghost.nlRow 8 47 2 (by simp) (by simp)) ?_
    refine DW.seq ?_
    refine DW.seq ?_
    refine DW.reg (by simp (maxSteps := 200000) (disch := first | omega | (simp; done) | fail) [wrapI, leT, leF, ltT, ltF, eqF, nleT, nleF, nltT, nltF, g0, g1, g2, hDl0, c1, c2, hX, hXl, hY, hYl]; rfl) ?_
    refine DW.block ?_
    refine DW.loopS (α := Nat) (fun i => i ≤ D.length) (fun i => D.length - i) (fun i => [(35, vi i), (8, .v (.one (.sl 47 [] 0 (zeroPages g t (D.take i)).length)))]) (fun i => [(47, .ow () 2 (zeroPages g t (D.take i)).length (rD (zeroPages g t (D.take i))))]) [(1, _), (3, _), (5, _), (7, _), (33, _), (34, _)] [(3, _), (5, _), (14, _)] [] 0 (by simp) (by simp [zeroPages]; exact ⟨rfl, rfl, rfl, rfl, rfl, rfl⟩) (by simp [zeroPages]; exact ⟨rfl, rfl, rfl⟩) (by simp) (by rfl) ?_
    intro i hi
    refine DW.seq ?_
    refine DW.reg (by simp (maxSteps := 200000) (disch := first | omega | (simp; done) | fail) [wrapI, leT, leF, ltT, ltF, eqF, nleT, nleF, nltT, nltF, g0, g1, g2, hDl0, c1, c2, hX, hXl, hY, hYl]; rfl) ?_
    refine DW.seq ?_
    refine DW.condB (by simp (maxSteps := 200000) (disch := first | omega | (simp; done) | fail) [wrapI, leT, leF, ltT, ltF, eqF, nleT, nleF, nltT, nltF, g0, g1, g2, hDl0, c1, c2, hX, hXl, hY, hYl]; exact rfl) (fun hc1 => ?_) (fun hc1 => ?_)
    · have hlt : i < D.length := by simpa using hc1
      have hlt1 : (i : Int) < D.length := by omega
      have hd := rD_get_Int D i hlt
      have hw := wr ((i : Int) + 1) (by omega) (by omega)
      have hR := zeroPages_succ g t D i hlt
      have hKl : (zeroPages g t (D.take i)).length = 4 * (D.take i).length := zeroPages_len _ _ _
      rw [List.length_take] at hKl
      have hcm := List.getElem_mem hlt
      generalize D[i] = c at hd hR hcm
      have hcx := hDin c hcm
      have hc1 : 0 ≤ c ∧ c ≤ 1000 := by omega
      have hc2 := (hDat c hcm).1
      have hc3 : pageAt g t c ≤ 1000000 := by have := (hDat c hcm).2; omega
      generalize (zeroPages g t (D.take i)) = K at *
      have b1 : (K.length + 4) * 24 ≤ 140737488355328 := by omega
      have b2 : K.length + 4 ≤ 140737488355328 := by omega
      have b3 : K.length ≤ 140737488355324 := by omega
      have hT := rD_take_Write K
      have hTl := rD_len_Write K
      have hz4 : zero4.length = 4 := zero4_len
      have hRl2 : (zeroPages g t (D.take (i + 1))).length = K.length + 4 := by rw [hR]; simp [zero4_len]
      have hR2 : rD (zeroPages g t (D.take (i + 1))) = rD K ++ rD (writesOf (pageAt g t c) zero4) := by rw [hR, rD_append]
      have hz4t := writesR_take (pageAt g t c) zero4 4
      have hz4l := writesR_len (pageAt g t c) zero4 4
      have hz4u : List.take 8 (rD (writesFrom (pageAt g t c) zero4 4)) = rD (writesFrom (pageAt g t c) zero4 4) := hz4t
      have hz4e : writesOf (pageAt g t c) zero4 = writesFrom (pageAt g t c) zero4 4 := by rw [← zero4_len]
      rw [hz4e] at hR2
      clear hR
      refine DW.skip ?_
      refine DW.seq ?_
      refine DW.block ?_
      refine DW.seq ?_
      refine DW.reg (by simp (maxSteps := 200000) (disch := first | omega | (simp; done) | fail) [wrapI, leT, leF, ltT, ltF, eqF, nleT, nleF, nltT, nltF, g0, g1, g2, hDl0, c1, c2, hX, hXl, hY, hYl, hlt1, hw, hd, b1, b2, b3, hT, hTl, hz4, hz4t, hz4l, hz4u, hz4e]; rfl) ?_
      refine DW.regs ?_
      refine RegO.opN 4 (by simp [g0, g1, g2, hDl0, c1, c2, hX, hXl, hY, hYl, hlt1, hw, hd, b1, b2, b3, hT, hTl, hz4, hz4t, hz4l, hz4u, hz4e]; rfl) ?_
      refine RegO.step rfl (OpStep.callA rfl (by simp [g0, g1, g2, hDl0, c1, c2, hX, hXl, hY, hYl, hlt1, hw, hd, b1, b2, b3, hT, hTl, hz4, hz4t, hz4l, hz4u, hz4e]; exact ⟨rfl, rfl⟩) (by simp [g0, g1, g2, hDl0, c1, c2, hX, hXl, hY, hYl, hlt1, hw, hd, b1, b2, b3, hT, hTl, hz4, hz4t, hz4l, hz4u, hz4e]; rfl) (by exact implPageAt_spec g t c hg hc1) (by simp) (by simp [g0, g1, g2, hDl0, c1, c2, hX, hXl, hY, hYl, hlt1, hw, hd, b1, b2, b3, hT, hTl, hz4, hz4t, hz4l, hz4u, hz4e]; rfl)) ?_
      refine RegO.step rfl (OpStep.callA rfl (by simp [g0, g1, g2, hDl0, c1, c2, hX, hXl, hY, hYl, hlt1, hw, hd, b1, b2, b3, hT, hTl, hz4, hz4t, hz4l, hz4u, hz4e]; exact ⟨rfl, rfl⟩) (by simp [g0, g1, g2, hDl0, c1, c2, hX, hXl, hY, hYl, hlt1, hw, hd, b1, b2, b3, hT, hTl, hz4, hz4t, hz4l, hz4u, hz4e]; rfl) (by exact (hpz ▸ padded_spec ByteArray.empty 32 (by simp) (by omega))) (by simp) (by simp [g0, g1, g2, hDl0, c1, c2, hX, hXl, hY, hYl, hlt1, hw, hd, b1, b2, b3, hT, hTl, hz4, hz4t, hz4l, hz4u, hz4e]; rfl)) ?_
      refine RegO.step rfl (OpStep.callA rfl (by simp [g0, g1, g2, hDl0, c1, c2, hX, hXl, hY, hYl, hlt1, hw, hd, b1, b2, b3, hT, hTl, hz4, hz4t, hz4l, hz4u, hz4e]; exact ⟨rfl, rfl⟩) (by simp [g0, g1, g2, hDl0, c1, c2, hX, hXl, hY, hYl, hlt1, hw, hd, b1, b2, b3, hT, hTl, hz4, hz4t, hz4l, hz4u, hz4e]; rfl) (by exact (h4 ▸ implWordsOf_spec (zeros 32) (by simp))) (by simp) (by simp [g0, g1, g2, hDl0, c1, c2, hX, hXl, hY, hYl, hlt1, hw, hd, b1, b2, b3, hT, hTl, hz4, hz4t, hz4l, hz4u, hz4e]; rfl)) ?_
      refine RegO.step rfl (OpStep.callA rfl (by simp [g0, g1, g2, hDl0, c1, c2, hX, hXl, hY, hYl, hlt1, hw, hd, b1, b2, b3, hT, hTl, hz4, hz4t, hz4l, hz4u, hz4e]; exact ⟨rfl, rfl⟩) (by simp [g0, g1, g2, hDl0, c1, c2, hX, hXl, hY, hYl, hlt1, hw, hd, b1, b2, b3, hT, hTl, hz4, hz4t, hz4l, hz4u, hz4e]; rfl) (by exact (hz4e ▸ impl_writesAt_spec (pageAt g t c) zero4 hc2 hc3 (by rw [zero4_len]; omega))) (by simp) (by simp [g0, g1, g2, hDl0, c1, c2, hX, hXl, hY, hYl, hlt1, hw, hd, b1, b2, b3, hT, hTl, hz4, hz4t, hz4l, hz4u, hz4e]; rfl)) ?_
      refine RegO.opN 2 (by simp [g0, g1, g2, hDl0, c1, c2, hX, hXl, hY, hYl, hlt1, hw, hd, b1, b2, b3, hT, hTl, hz4, hz4t, hz4l, hz4u, hz4e]; rfl) ?_
      refine RegO.nil ?_
      refine DW.norm [(1, _), (3, _), (5, _), (7, _), (8, _), (33, _), (34, _), (35, _)] [(47, _), (3, _), (5, _), (14, _)] [] (by simp [g0, g1, g2, hDl0, c1, c2, hX, hXl, hY, hYl, hlt1, hw, hd, b1, b2, b3, hT, hTl, hz4, hz4t, hz4l, hz4u, hz4e]; exact ⟨rfl, rfl, rfl, rfl, rfl, rfl, rfl, rfl⟩) (by simp [g0, g1, g2, hDl0, c1, c2, hX, hXl, hY, hYl, hlt1, hw, hd, b1, b2, b3, hT, hTl, hz4, hz4t, hz4l, hz4u, hz4e]; exact ⟨rfl, rfl, rfl, rfl⟩) (by simp [g0, g1, g2, hDl0, c1, c2, hX, hXl, hY, hYl, hlt1, hw, hd, b1, b2, b3, hT, hTl, hz4, hz4t, hz4l, hz4u, hz4e]) (by rfl) ?_
      refine DW.reg (by simp (maxSteps := 200000) (disch := first | omega | (simp; done) | fail) [wrapI, leT, leF, ltT, ltF, eqF, nleT, nleF, nltT, nltF, g0, g1, g2, hDl0, c1, c2, hX, hXl, hY, hYl, hlt1, hw, hd, b1, b2, b3, hT, hTl, hz4, hz4t, hz4l, hz4u, hz4e]; rfl) ?_
      exact ⟨i + 1, hlt, by omega, by simp [hRl2], by simp [hR2, hRl2], by simp, by rfl⟩
    · have hil : i = D.length := by
        have : ¬ i < D.length := by simpa using hc1
        omega
      subst hil
      rw [List.take_length]
      refine DW.exit ?_
      refine DW.seq ?_
      refine DW.regs ?_
      refine RegO.opN 3 (by simp (maxSteps := 200000) (disch := first | omega | (simp; done) | fail) [wrapI, leT, leF, ltT, ltF, eqF, nleT, nleF, nltT, nltF, g0, g1, g2, hDl0, c1, c2, hX, hXl, hY, hYl]; rfl) ?_
      refine RegO.step rfl (OpStep.callA rfl (by simp (maxSteps := 200000) (disch := first | omega | (simp; done) | fail) [wrapI, leT, leF, ltT, ltF, eqF, nleT, nleF, nltT, nltF, g0, g1, g2, hDl0, c1, c2, hX, hXl, hY, hYl]; exact ⟨rfl, rfl⟩) (by simp (maxSteps := 200000) (disch := first | omega | (simp; done) | fail) [wrapI, leT, leF, ltT, ltF, eqF, nleT, nleF, nltT, nltF, g0, g1, g2, hDl0, c1, c2, hX, hXl, hY, hYl]; rfl) (by exact implWithState_spec _ _ _ (by omega) (by omega)) (by simp) (by simp (maxSteps := 200000) (disch := first | omega | (simp; done) | fail) [wrapI, leT, leF, ltT, ltF, eqF, nleT, nleF, nltT, nltF, g0, g1, g2, hDl0, c1, c2, hX, hXl, hY, hYl]; rfl)) ?_
      refine RegO.step rfl (OpStep.callA rfl (by simp (maxSteps := 200000) (disch := first | omega | (simp; done) | fail) [wrapI, leT, leF, ltT, ltF, eqF, nleT, nleF, nltT, nltF, g0, g1, g2, hDl0, c1, c2, hX, hXl, hY, hYl]; exact ⟨rfl, rfl⟩) (by simp (maxSteps := 200000) (disch := first | omega | (simp; done) | fail) [wrapI, leT, leF, ltT, ltF, eqF, nleT, nleF, nltT, nltF, g0, g1, g2, hDl0, c1, c2, hX, hXl, hY, hYl]; rfl) (by exact implStatesWords_spec _ hok2) (by simp) (by simp (maxSteps := 200000) (disch := first | omega | (simp; done) | fail) [wrapI, leT, leF, ltT, ltF, eqF, nleT, nleF, nltT, nltF, g0, g1, g2, hDl0, c1, c2, hX, hXl, hY, hYl]; rfl)) ?_
      refine RegO.opN 1 (by simp (maxSteps := 200000) (disch := first | omega | (simp; done) | fail) [wrapI, leT, leF, ltT, ltF, eqF, nleT, nleF, nltT, nltF, g0, g1, g2, hDl0, c1, c2, hX, hXl, hY, hYl]; rfl) ?_
      refine RegO.nil ?_
      refine DW.seq ?_
      refine DW.drawn mixed (by kernel_rfl) ?_
      refine RegD.addN 1 (by simp [g0, g1, g2, hDl0, c1, c2, hX, hXl, hY, hYl]; (first | (simp (disch := omega) only [wrapI]; done) | (simp (disch := omega) only [wrapI]; exact ⟨rfl, rfl⟩) | skip); (first | done | exact ⟨rfl, rfl⟩ | rfl)) ?_
      refine RegD.cert (Cert.callHA rfl (by simp) rfl (by decide) (by simp [g0, g1, g2, hDl0, c1, c2, hX, hXl, hY, hYl]; exact ⟨rfl, rfl⟩) (by simp [g0, g1, g2, hDl0, c1, c2, hX, hXl, hY, hYl]; rfl) (by exact hSX) rfl (by simp) (by simp) (by simp; rfl) rfl) ?_
      refine RegD.addN 2 (by simp [g0, g1, g2, hDl0, c1, c2, hX, hXl, hY, hYl]; (first | (simp (disch := omega) only [wrapI]; done) | (simp (disch := omega) only [wrapI]; exact ⟨rfl, rfl⟩) | skip); (first | done | exact ⟨rfl, rfl⟩ | rfl)) ?_
      refine RegD.cert (Cert.callA rfl (by simp) rfl (by decide) (by simp [g0, g1, g2, hDl0, c1, c2, hX, hXl, hY, hYl]; exact ⟨rfl, rfl⟩) (by simp [g0, g1, g2, hDl0, c1, c2, hX, hXl, hY, hYl]; rfl) (by exact statesAt_spec _ _) rfl (by simp) (by simp; rfl) rfl) ?_
      refine RegD.addN 1 (by simp [g0, g1, g2, hDl0, c1, c2, hX, hXl, hY, hYl]; (first | (simp (disch := omega) only [wrapI]; done) | (simp (disch := omega) only [wrapI]; exact ⟨rfl, rfl⟩) | skip); (first | done | exact ⟨rfl, rfl⟩ | rfl)) ?_
      refine RegD.cert (Cert.callHA rfl (by simp) rfl (by decide) (by simp [g0, g1, g2, hDl0, c1, c2, hX, hXl, hY, hYl]; exact ⟨rfl, rfl⟩) (by simp [g0, g1, g2, hDl0, c1, c2, hX, hXl, hY, hYl]; rfl) (by exact hSW) rfl (by simp) (by simp) (by simp; rfl) rfl) ?_
      refine RegD.cert (Cert.callHA rfl (by simp) rfl (by decide) (by simp [g0, g1, g2, hDl0, c1, c2, hX, hXl, hY, hYl]; exact ⟨rfl, rfl⟩) (by simp [g0, g1, g2, hDl0, c1, c2, hX, hXl, hY, hYl]; rfl) (by exact hSY) rfl (by simp) (by simp) (by simp; rfl) rfl) ?_
      refine RegD.heavyF (by simp) (by simp [g0, g1, g2, hDl0, c1, c2, hX, hXl, hY, hYl]; rfl) ?_
      refine RegD.addN 1 (by simp [g0, g1, g2, hDl0, c1, c2, hX, hXl, hY, hYl]; (first | (simp (disch := omega) only [wrapI]; done) | (simp (disch := omega) only [wrapI]; exact ⟨rfl, rfl⟩) | skip); (first | done | exact ⟨rfl, rfl⟩ | rfl)) ?_
      refine RegD.nil ⟨by kernel_rfl, ?_⟩
      refine DW.ret ?_
      rw [hres]
      simp [Tryz.results13, hRR, hTR, hl3, rD_append]
end Go.Proofs.YtjjdjkkhhcbogaaGreat.DM
