import Derived.Test.YtjjdjkkhhcbogaaFW15
import Derived.Test.YtjjdjkkhhcbogaaFW16
import Derived.Test.YtjjdjkkhhcbogaaFW10
namespace Go.Proofs.Ytjjdjkkhhcbogaa.DM
set_option linter.unusedVariables false
set_option linter.unusedSimpArgs false
set_option maxRecDepth 4000
set_option maxHeartbeats 8000000
theorem fallM_bd (m : Memory) (p : Int) : (fallM m p).Kept.size = m.Kept.size ∧ (fallM m p).Cells.length ≤ m.Cells.length := by
  unfold fallM
  split
  · rename_i h
    simp only [Bool.and_eq_true] at h
    exact ⟨keptF_size p (memOk_fits h.1), Nat.zero_le _⟩
  · exact ⟨rfl, Nat.le_refl _⟩
theorem FnStores_spec (code : List UInt8) (hc : code.length < 2 ^ 62) : Spec Try.prog 5 [ra code] [none] [db true] [ra code] := by
  have hdraw := drawStore_spec code hc
  obtain ⟨-, -, hk0, hl0⟩ := anyV_bd (newC_ok hc)
  have hme : (anyV (newC code)).1 = stM code := rfl
  rw [hme] at hk0 hl0
  generalize stM code = m at *
  generalize stA code = a at *
  generalize stW code = w at *
  obtain ⟨k, l⟩ := m
  simp only at hk0 hl0
  have hk : k.size < 2 ^ 40 := by omega
  have hl : l.length < 2 ^ 40 := by omega
  have hxb := storeM_bd ⟨k, l⟩ a w
  have hxl : (storeM ⟨k, l⟩ a w).Cells.length < 2 ^ 40 := by have := hxb.2; simp only at this; omega
  refine Spec.intro Try.func5 rfl rfl Try.ntmps5 rfl (by simp) ?_
  refine DW.seq ?_
  refine DW.reg (by simp (maxSteps := 200000) (disch := first | omega | (simp; done) | fail) [wrapI, leT, leF, ltT, ltF, eqF, nleT, nleF, nltT, nltF, rD_len_Cell]; rfl) ?_
  refine DW.seq ?_
  refine DW.seq ?_
  refine DW.regs ?_
  refine RegO.opN 1 (by simp (maxSteps := 200000) (disch := first | omega | (simp; done) | fail) [wrapI, leT, leF, ltT, ltF, eqF, nleT, nleF, nltT, nltF, rD_len_Cell]; rfl) ?_
  refine RegO.step rfl (OpStep.callA rfl (by simp (maxSteps := 200000) (disch := first | omega | (simp; done) | fail) [wrapI, leT, leF, ltT, ltF, eqF, nleT, nleF, nltT, nltF, rD_len_Cell]; exact ⟨rfl, rfl⟩) (by simp (maxSteps := 200000) (disch := first | omega | (simp; done) | fail) [wrapI, leT, leF, ltT, ltF, eqF, nleT, nleF, nltT, nltF, rD_len_Cell]; rfl) (by exact big_spec code) (by simp) (by simp (maxSteps := 200000) (disch := first | omega | (simp; done) | fail) [wrapI, leT, leF, ltT, ltF, eqF, nleT, nleF, nltT, nltF, rD_len_Cell]; rfl)) ?_
  refine RegO.nil ?_
  refine DW.condB (by simp (maxSteps := 200000) (disch := first | omega | (simp; done) | fail) [wrapI, leT, leF, ltT, ltF, eqF, nleT, nleF, nltT, nltF, rD_len_Cell]; exact rfl) (fun hc0 => ?_) (fun hc0 => ?_)
  · skip
    refine DW.seq ?_
    refine DW.reg (by simp (maxSteps := 200000) (disch := first | omega | (simp; done) | fail) [wrapI, leT, leF, ltT, ltF, eqF, nleT, nleF, nltT, nltF, rD_len_Cell]; rfl) ?_
    refine DW.ret ?_
    simp [Try.results5]
  · skip
    refine DW.skip ?_
    refine DW.seq ?_
    refine DW.regs ?_
    refine RegO.opN 1 (by simp [rD_len_Cell]; rfl) ?_
    refine RegO.step rfl (OpStep.callA rfl (by simp [rD_len_Cell]; exact ⟨rfl, rfl⟩) (by simp [rD_len_Cell]; rfl) (by exact hdraw) (by simp) (by simp [rD_len_Cell]; rfl)) ?_
    refine RegO.opN 8 (by simp [rD_len_Cell]; rfl) ?_
    refine RegO.nil ?_
    refine DW.norm [(0, _), (3, _), (4, _), (5, _)] [(3, _)] [] (by simp [rD_len_Cell]; exact ⟨rfl, rfl, rfl, rfl⟩) (by simp [rD_len_Cell]; rfl) (by simp [rD_len_Cell]) (by rfl) ?_
    refine DW.seq ?_
    refine DW.regs ?_
    refine RegO.opN 3 (by simp [rD_len_Cell]; rfl) ?_
    refine RegO.step rfl (OpStep.callA rfl (by simp [rD_len_Cell]; exact ⟨rfl, rfl⟩) (by simp [rD_len_Cell]; rfl) (by exact implStoreWord_spec k l a w hk hl) (by simp) (by simp [rD_len_Cell]; rfl)) ?_
    refine RegO.opN 2 (by simp [rD_len_Cell]; rfl) ?_
    refine RegO.nil ?_
    refine DW.norm [(0, _), (3, _), (4, _), (5, _), (6, _)] [(3, _), (6, _)] [] (by simp [rD_len_Cell]; exact ⟨rfl, rfl, rfl, rfl, rfl⟩) (by simp [rD_len_Cell]; exact ⟨rfl, rfl⟩) (by simp [rD_len_Cell]) (by rfl) ?_
    refine DW.seq ?_
    refine DW.regs ?_
    refine RegO.opN 3 (by simp [rD_len_Cell]; rfl) ?_
    refine RegO.step rfl (OpStep.callA rfl (by simp [rD_len_Cell]; exact ⟨rfl, rfl⟩) (by simp [rD_len_Cell]; rfl) (by exact specWord_spec k l a w hk hl) (by simp) (by simp [rD_len_Cell]; rfl)) ?_
    refine RegO.opN 2 (by simp [rD_len_Cell]; rfl) ?_
    refine RegO.nil ?_
    refine DW.norm [(0, _), (3, _), (4, _), (5, _), (6, _), (7, _)] [(3, _), (6, _), (7, _)] [] (by simp [rD_len_Cell]; exact ⟨rfl, rfl, rfl, rfl, rfl, rfl⟩) (by simp [rD_len_Cell]; exact ⟨rfl, rfl, rfl⟩) (by simp [rD_len_Cell]) (by rfl) ?_
    refine DW.seq ?_
    refine DW.seq ?_
    refine DW.regs ?_
    refine RegO.opN 2 (by simp (maxSteps := 200000) (disch := first | omega | (simp; done) | fail) [wrapI, leT, leF, ltT, ltF, eqF, nleT, nleF, nltT, nltF, rD_len_Cell]; rfl) ?_
    refine RegO.step rfl (OpStep.callA rfl (by simp (maxSteps := 200000) (disch := first | omega | (simp; done) | fail) [wrapI, leT, leF, ltT, ltF, eqF, nleT, nleF, nltT, nltF, rD_len_Cell]; exact ⟨rfl, rfl⟩) (by simp (maxSteps := 200000) (disch := first | omega | (simp; done) | fail) [wrapI, leT, leF, ltT, ltF, eqF, nleT, nleF, nltT, nltF, rD_len_Cell]; rfl) (by exact sameMemory_spec (storeM ⟨k, l⟩ a w) hxl) (by simp) (by simp (maxSteps := 200000) (disch := first | omega | (simp; done) | fail) [wrapI, leT, leF, ltT, ltF, eqF, nleT, nleF, nltT, nltF, rD_len_Cell]; rfl)) ?_
    refine RegO.opN 1 (by simp (maxSteps := 200000) (disch := first | omega | (simp; done) | fail) [wrapI, leT, leF, ltT, ltF, eqF, nleT, nleF, nltT, nltF, rD_len_Cell]; rfl) ?_
    refine RegO.nil ?_
    refine DW.norm [(0, _), (3, _), (4, _), (5, _), (6, _), (31, _)] [(3, _), (6, _), (7, _)] [] (by simp [rD_len_Cell]; exact ⟨rfl, rfl, rfl, rfl, rfl, rfl⟩) (by simp [rD_len_Cell]; exact ⟨rfl, rfl, rfl⟩) (by simp [rD_len_Cell]) (by rfl) ?_
    refine DW.condF (by simp (maxSteps := 200000) (disch := first | omega | (simp; done) | fail) [wrapI, leT, leF, ltT, ltF, eqF, nleT, nleF, nltT, nltF, rD_len_Cell]) ?_
    refine DW.skip ?_
    refine DW.seq ?_
    refine DW.seq ?_
    have h3 : inM ⟨k, l⟩ a = false ∨ (inM ⟨k, l⟩ a = true ∧ ¬ w.size = 8) ∨ (inM ⟨k, l⟩ a = true ∧ w.size = 8) := by
      cases inM ⟨k, l⟩ a
      · exact .inl rfl
      · by_cases h : w.size = 8
        · exact .inr (.inr ⟨rfl, h⟩)
        · exact .inr (.inl ⟨rfl, h⟩)
    rcases h3 with g0 | ⟨g0, g1⟩ | ⟨g0, g1⟩
    · have hres : storeM ⟨k, l⟩ a w = ⟨k, l⟩ := by
        unfold storeM
        cases hm : memOk k l
        · simp
        · simp only [inM, hm, Bool.true_and] at g0
          simp [g0]
      rw [hres]
      have he : wordM ⟨k, l⟩ a = ByteArray.empty := by simp [wordM, g0]
      refine DW.regs ?_
      refine RegO.opN 2 (by simp (maxSteps := 200000) (disch := first | omega | (simp; done) | fail) [wrapI, leT, leF, ltT, ltF, eqF, nleT, nleF, nltT, nltF, rD_len_Cell, he]; rfl) ?_
      refine RegO.step rfl (OpStep.callA rfl (by simp (maxSteps := 200000) (disch := first | omega | (simp; done) | fail) [wrapI, leT, leF, ltT, ltF, eqF, nleT, nleF, nltT, nltF, rD_len_Cell, he]; exact ⟨rfl, rfl⟩) (by simp (maxSteps := 200000) (disch := first | omega | (simp; done) | fail) [wrapI, leT, leF, ltT, ltF, eqF, nleT, nleF, nltT, nltF, rD_len_Cell, he]; rfl) (by exact specWordAt_spec ⟨k, l⟩ _ hk hl) (by simp) (by simp (maxSteps := 200000) (disch := first | omega | (simp; done) | fail) [wrapI, leT, leF, ltT, ltF, eqF, nleT, nleF, nltT, nltF, rD_len_Cell, he]; rfl)) ?_
      refine RegO.opN 6 (by simp (maxSteps := 200000) (disch := first | omega | (simp; done) | fail) [wrapI, leT, leF, ltT, ltF, eqF, nleT, nleF, nltT, nltF, rD_len_Cell, he]; rfl) ?_
      refine RegO.nil ?_
      refine DW.norm [(0, _), (3, _), (4, _), (5, _), (6, _), (40, _)] [(3, _), (6, _), (7, _)] [] (by simp [rD_len_Cell, he]; exact ⟨rfl, rfl, rfl, rfl, rfl, rfl⟩) (by simp [rD_len_Cell, he]; exact ⟨rfl, rfl, rfl⟩) (by simp [rD_len_Cell, he]) (by rfl) ?_
      refine DW.condT (by simp (maxSteps := 200000) (disch := first | omega | (simp; done) | fail) [wrapI, leT, leF, ltT, ltF, eqF, nleT, nleF, nltT, nltF, rD_len_Cell, he]) ?_
      refine DW.seq ?_
      refine DW.regs ?_
      refine RegO.opN 2 (by simp (maxSteps := 200000) (disch := first | omega | (simp; done) | fail) [wrapI, leT, leF, ltT, ltF, eqF, nleT, nleF, nltT, nltF, rD_len_Cell, he]; rfl) ?_
      refine RegO.step rfl (OpStep.callA rfl (by simp (maxSteps := 200000) (disch := first | omega | (simp; done) | fail) [wrapI, leT, leF, ltT, ltF, eqF, nleT, nleF, nltT, nltF, rD_len_Cell, he]; exact ⟨rfl, rfl⟩) (by simp (maxSteps := 200000) (disch := first | omega | (simp; done) | fail) [wrapI, leT, leF, ltT, ltF, eqF, nleT, nleF, nltT, nltF, rD_len_Cell, he]; rfl) (by exact sameMemory_spec ⟨k, l⟩ hl) (by simp) (by simp (maxSteps := 200000) (disch := first | omega | (simp; done) | fail) [wrapI, leT, leF, ltT, ltF, eqF, nleT, nleF, nltT, nltF, rD_len_Cell, he]; rfl)) ?_
      refine RegO.opN 1 (by simp (maxSteps := 200000) (disch := first | omega | (simp; done) | fail) [wrapI, leT, leF, ltT, ltF, eqF, nleT, nleF, nltT, nltF, rD_len_Cell, he]; rfl) ?_
      refine RegO.stepT (by simp (maxSteps := 200000) (disch := first | omega | (simp; done) | fail) [wrapI, leT, leF, ltT, ltF, eqF, nleT, nleF, nltT, nltF, rD_len_Cell, he]) (OpStep.callA rfl (by simp (maxSteps := 200000) (disch := first | omega | (simp; done) | fail) [wrapI, leT, leF, ltT, ltF, eqF, nleT, nleF, nltT, nltF, rD_len_Cell, he]; exact ⟨rfl, rfl⟩) (by simp (maxSteps := 200000) (disch := first | omega | (simp; done) | fail) [wrapI, leT, leF, ltT, ltF, eqF, nleT, nleF, nltT, nltF, rD_len_Cell, he]; rfl) (by exact implMemoryNew_spec 1 (by omega)) (by simp) (by simp (maxSteps := 200000) (disch := first | omega | (simp; done) | fail) [wrapI, leT, leF, ltT, ltF, eqF, nleT, nleF, nltT, nltF, rD_len_Cell, he]; rfl)) ?_
      refine RegO.opN 5 (by simp (maxSteps := 200000) (disch := first | omega | (simp; done) | fail) [wrapI, leT, leF, ltT, ltF, eqF, nleT, nleF, nltT, nltF, rD_len_Cell, he]; rfl) ?_
      refine RegO.nil ?_
      refine DW.ret ?_
      simp [Try.results5]
    · have hres : storeM ⟨k, l⟩ a w = ⟨k, l⟩ := by
        unfold storeM
        cases hm : memOk k l
        · simp
        · simp only [inM, hm, Bool.true_and] at g0
          simp [g1]
      rw [hres]
      have hne : ((wordM ⟨k, l⟩ a).toList == []) = false  := wordM_ne g0
      have hw8 : ((w.size : Int) != 8) = true := by simp; omega
      refine DW.regs ?_
      refine RegO.opN 2 (by simp (maxSteps := 200000) (disch := first | omega | (simp; done) | fail) [wrapI, leT, leF, ltT, ltF, eqF, nleT, nleF, nltT, nltF, rD_len_Cell, hne, hw8]; rfl) ?_
      refine RegO.step rfl (OpStep.callA rfl (by simp (maxSteps := 200000) (disch := first | omega | (simp; done) | fail) [wrapI, leT, leF, ltT, ltF, eqF, nleT, nleF, nltT, nltF, rD_len_Cell, hne, hw8]; exact ⟨rfl, rfl⟩) (by simp (maxSteps := 200000) (disch := first | omega | (simp; done) | fail) [wrapI, leT, leF, ltT, ltF, eqF, nleT, nleF, nltT, nltF, rD_len_Cell, hne, hw8]; rfl) (by exact specWordAt_spec ⟨k, l⟩ _ hk hl) (by simp) (by simp (maxSteps := 200000) (disch := first | omega | (simp; done) | fail) [wrapI, leT, leF, ltT, ltF, eqF, nleT, nleF, nltT, nltF, rD_len_Cell, hne, hw8]; rfl)) ?_
      refine RegO.opN 6 (by simp (maxSteps := 200000) (disch := first | omega | (simp; done) | fail) [wrapI, leT, leF, ltT, ltF, eqF, nleT, nleF, nltT, nltF, rD_len_Cell, hne, hw8]; rfl) ?_
      refine RegO.nil ?_
      refine DW.norm [(0, _), (3, _), (4, _), (5, _), (6, _), (40, _)] [(3, _), (6, _), (7, _)] [] (by simp [rD_len_Cell, hne, hw8]; exact ⟨rfl, rfl, rfl, rfl, rfl, rfl⟩) (by simp [rD_len_Cell, hne, hw8]; exact ⟨rfl, rfl, rfl⟩) (by simp [rD_len_Cell, hne, hw8]) (by rfl) ?_
      refine DW.condT (by simp (maxSteps := 200000) (disch := first | omega | (simp; done) | fail) [wrapI, leT, leF, ltT, ltF, eqF, nleT, nleF, nltT, nltF, rD_len_Cell, hne, hw8]) ?_
      refine DW.seq ?_
      refine DW.regs ?_
      refine RegO.opN 2 (by simp (maxSteps := 200000) (disch := first | omega | (simp; done) | fail) [wrapI, leT, leF, ltT, ltF, eqF, nleT, nleF, nltT, nltF, rD_len_Cell, hne, hw8]; rfl) ?_
      refine RegO.step rfl (OpStep.callA rfl (by simp (maxSteps := 200000) (disch := first | omega | (simp; done) | fail) [wrapI, leT, leF, ltT, ltF, eqF, nleT, nleF, nltT, nltF, rD_len_Cell, hne, hw8]; exact ⟨rfl, rfl⟩) (by simp (maxSteps := 200000) (disch := first | omega | (simp; done) | fail) [wrapI, leT, leF, ltT, ltF, eqF, nleT, nleF, nltT, nltF, rD_len_Cell, hne, hw8]; rfl) (by exact sameMemory_spec ⟨k, l⟩ hl) (by simp) (by simp (maxSteps := 200000) (disch := first | omega | (simp; done) | fail) [wrapI, leT, leF, ltT, ltF, eqF, nleT, nleF, nltT, nltF, rD_len_Cell, hne, hw8]; rfl)) ?_
      refine RegO.opN 1 (by simp (maxSteps := 200000) (disch := first | omega | (simp; done) | fail) [wrapI, leT, leF, ltT, ltF, eqF, nleT, nleF, nltT, nltF, rD_len_Cell, hne, hw8]; rfl) ?_
      refine RegO.stepT (by simp (maxSteps := 200000) (disch := first | omega | (simp; done) | fail) [wrapI, leT, leF, ltT, ltF, eqF, nleT, nleF, nltT, nltF, rD_len_Cell, hne, hw8]) (OpStep.callA rfl (by simp (maxSteps := 200000) (disch := first | omega | (simp; done) | fail) [wrapI, leT, leF, ltT, ltF, eqF, nleT, nleF, nltT, nltF, rD_len_Cell, hne, hw8]; exact ⟨rfl, rfl⟩) (by simp (maxSteps := 200000) (disch := first | omega | (simp; done) | fail) [wrapI, leT, leF, ltT, ltF, eqF, nleT, nleF, nltT, nltF, rD_len_Cell, hne, hw8]; rfl) (by exact implMemoryNew_spec 1 (by omega)) (by simp) (by simp (maxSteps := 200000) (disch := first | omega | (simp; done) | fail) [wrapI, leT, leF, ltT, ltF, eqF, nleT, nleF, nltT, nltF, rD_len_Cell, hne, hw8]; rfl)) ?_
      refine RegO.opN 5 (by simp (maxSteps := 200000) (disch := first | omega | (simp; done) | fail) [wrapI, leT, leF, ltT, ltF, eqF, nleT, nleF, nltT, nltF, rD_len_Cell, hne, hw8]; rfl) ?_
      refine RegO.nil ?_
      refine DW.ret ?_
      simp [Try.results5]
    · obtain ⟨hok, n, hn0, hn⟩ := inM_nat g0
      have hne : ((wordM ⟨k, l⟩ a).toList == []) = false := wordM_ne (by assumption)
      subst hn0
      simp only at hok hn
      obtain ⟨e2, he2⟩ : ∃ e2 : Nat, e2 = n / 2 := ⟨_, rfl⟩
      have v1 : IntKind.i64.wrap ((n : Int) / 2) = (e2 : Int) := (wr _ (by omega) (by omega)).trans (by omega)
      have v2 : (n : Int) / 2 = (e2 : Int) := by omega
      have v3 : IntKind.i64.wrap (e2 : Int) = (e2 : Int) := wr _ (by omega) (by omega)
      have hP : ∃ p0 p1 rest, plsL (newC code) 12 = p0 :: p1 :: rest ∧ 0 ≤ p0 ∧ 0 ≤ p1 := ⟨belowV (plsC (newC code) 0) 10000, belowV (plsC (newC code) 1) 10000, _, rfl, (belowV_bd _ _).1, (belowV_bd _ _).1⟩
      have hpl := drawPlaces_spec code hc
      obtain ⟨p0, p1, rest, hPl, hp0, hp1⟩ := hP
      rw [hPl] at hpl
      have hlaw := stores_law hok g1 hn (p0.tmod 64) (p1.tmod 64) (Int.tmod_nonneg _ hp0) (Int.tmod_nonneg _ hp1)
      rw [← he2] at hlaw
      have hb2 := flushM_bd (storeM ⟨k, l⟩ n w) e2
      have hb3 := fenceM_bd (flushM (storeM ⟨k, l⟩ n w) e2)
      obtain ⟨x, hx⟩ : ∃ x, storeM ⟨k, l⟩ n w = x := ⟨_, rfl⟩
      rw [hx] at hlaw hb2 hb3 hxb hxl ⊢
      obtain ⟨kx, lx⟩ := x
      obtain ⟨y1, hy1⟩ : ∃ x, flushM ⟨kx, lx⟩ e2 = x := ⟨_, rfl⟩
      rw [hy1] at hlaw hb2 hb3
      obtain ⟨k1, l1⟩ := y1
      obtain ⟨y, hy⟩ : ∃ x, fenceM ⟨k1, l1⟩ = x := ⟨_, rfl⟩
      rw [hy] at hlaw hb3
      obtain ⟨ky, ly⟩ := y
      simp only at hb2 hb3 hxb hxl
      have hk1 : kx.size < 2 ^ 40 := by omega
      have hk2 : k1.size < 2 ^ 40 := by omega
      have hl2 : l1.length < 2 ^ 40 := by omega
      have hk3 : ky.size < 2 ^ 40 := by omega
      have hl3 : ly.length < 2 ^ 40 := by omega
      have hflu := implFlush_spec kx lx e2 hk1 hxl
      rw [hy1] at hflu
      have hfen := implFence_spec k1 l1 hk2 hl2
      rw [hy] at hfen
      have r0 : (0 : Int) < (rest.length : Int) + 1 + 1 := by omega
      have r1 : (1 : Int) < (rest.length : Int) + 1 + 1 := by omega
      have hb4 := fallM_bd ⟨ky, ly⟩ (p0.tmod 64)
      have hb5 := fallM_bd ⟨kx, lx⟩ (p1.tmod 64)
      have hfz := implFallen_spec ky ly (p0.tmod 64) hk3 hl3
      have hfu := implFallen_spec kx lx (p1.tmod 64) hk1 hxl
      obtain ⟨z, hz⟩ : ∃ x, fallM ⟨ky, ly⟩ (p0.tmod 64) = x := ⟨_, rfl⟩
      rw [hz] at hlaw hb4 hfz
      obtain ⟨kz, lz⟩ := z
      obtain ⟨u, hu⟩ : ∃ x, fallM ⟨kx, lx⟩ (p1.tmod 64) = x := ⟨_, rfl⟩
      rw [hu] at hlaw hb5 hfu
      obtain ⟨ku, lu⟩ := u
      simp only at hb4 hb5
      refine DW.regs ?_
      refine RegO.opN 2 (by simp (maxSteps := 200000) (disch := first | omega | (simp; done) | fail) [wrapI, leT, leF, ltT, ltF, eqF, nleT, nleF, nltT, nltF, rD_len_Cell, hne, g1, v1, v2, v3, r0, r1]; rfl) ?_
      refine RegO.step rfl (OpStep.callA rfl (by simp (maxSteps := 200000) (disch := first | omega | (simp; done) | fail) [wrapI, leT, leF, ltT, ltF, eqF, nleT, nleF, nltT, nltF, rD_len_Cell, hne, g1, v1, v2, v3, r0, r1]; exact ⟨rfl, rfl⟩) (by simp (maxSteps := 200000) (disch := first | omega | (simp; done) | fail) [wrapI, leT, leF, ltT, ltF, eqF, nleT, nleF, nltT, nltF, rD_len_Cell, hne, g1, v1, v2, v3, r0, r1]; rfl) (by exact specWordAt_spec ⟨k, l⟩ _ hk hl) (by simp) (by simp (maxSteps := 200000) (disch := first | omega | (simp; done) | fail) [wrapI, leT, leF, ltT, ltF, eqF, nleT, nleF, nltT, nltF, rD_len_Cell, hne, g1, v1, v2, v3, r0, r1]; rfl)) ?_
      refine RegO.opN 6 (by simp (maxSteps := 200000) (disch := first | omega | (simp; done) | fail) [wrapI, leT, leF, ltT, ltF, eqF, nleT, nleF, nltT, nltF, rD_len_Cell, hne, g1, v1, v2, v3, r0, r1]; rfl) ?_
      refine RegO.nil ?_
      refine DW.norm [(0, _), (3, _), (4, _), (5, _), (6, _), (40, _)] [(3, _), (6, _), (7, _)] [] (by simp [rD_len_Cell, hne, g1, v1, v2, v3, r0, r1]; exact ⟨rfl, rfl, rfl, rfl, rfl, rfl⟩) (by simp [rD_len_Cell, hne, g1, v1, v2, v3, r0, r1]; exact ⟨rfl, rfl, rfl⟩) (by simp [rD_len_Cell, hne, g1, v1, v2, v3, r0, r1]) (by rfl) ?_
      refine DW.condF (by simp (maxSteps := 200000) (disch := first | omega | (simp; done) | fail) [wrapI, leT, leF, ltT, ltF, eqF, nleT, nleF, nltT, nltF, rD_len_Cell, hne, g1, v1, v2, v3, r0, r1]) ?_
      refine DW.skip ?_
      refine DW.seq ?_
      refine DW.regs ?_
      refine RegO.opN 3 (by simp [rD_len_Cell, hne, g1, v1, v2, v3, r0, r1]; rfl) ?_
      refine RegO.step rfl (OpStep.callA rfl (by simp [rD_len_Cell, hne, g1, v1, v2, v3, r0, r1]; exact ⟨rfl, rfl⟩) (by simp [rD_len_Cell, hne, g1, v1, v2, v3, r0, r1]; rfl) (by exact hflu) (by simp) (by simp [rD_len_Cell, hne, g1, v1, v2, v3, r0, r1]; rfl)) ?_
      refine RegO.step rfl (OpStep.callA rfl (by simp [rD_len_Cell, hne, g1, v1, v2, v3, r0, r1]; exact ⟨rfl, rfl⟩) (by simp [rD_len_Cell, hne, g1, v1, v2, v3, r0, r1]; rfl) (by exact hfen) (by simp) (by simp [rD_len_Cell, hne, g1, v1, v2, v3, r0, r1]; rfl)) ?_
      refine RegO.opN 2 (by simp [rD_len_Cell, hne, g1, v1, v2, v3, r0, r1]; rfl) ?_
      refine RegO.nil ?_
      refine DW.norm [(0, _), (3, _), (4, _), (5, _), (6, _), (8, _)] [(3, _), (6, _), (8, _)] [] (by simp [rD_len_Cell, hne, g1, v1, v2, v3, r0, r1]; exact ⟨rfl, rfl, rfl, rfl, rfl, rfl⟩) (by simp [rD_len_Cell, hne, g1, v1, v2, v3, r0, r1]; exact ⟨rfl, rfl, rfl⟩) (by simp [rD_len_Cell, hne, g1, v1, v2, v3, r0, r1]) (by rfl) ?_
      refine DW.seq ?_
      refine DW.regs ?_
      refine RegO.opN 1 (by simp (maxSteps := 200000) (disch := first | omega | (simp; done) | fail) [wrapI, leT, leF, ltT, ltF, eqF, nleT, nleF, nltT, nltF, rD_len_Cell, hne, g1, v1, v2, v3, r0, r1]; rfl) ?_
      refine RegO.step rfl (OpStep.callA rfl (by simp (maxSteps := 200000) (disch := first | omega | (simp; done) | fail) [wrapI, leT, leF, ltT, ltF, eqF, nleT, nleF, nltT, nltF, rD_len_Cell, hne, g1, v1, v2, v3, r0, r1]; exact ⟨rfl, rfl⟩) (by simp (maxSteps := 200000) (disch := first | omega | (simp; done) | fail) [wrapI, leT, leF, ltT, ltF, eqF, nleT, nleF, nltT, nltF, rD_len_Cell, hne, g1, v1, v2, v3, r0, r1]; rfl) (by exact hpl) (by simp) (by simp (maxSteps := 200000) (disch := first | omega | (simp; done) | fail) [wrapI, leT, leF, ltT, ltF, eqF, nleT, nleF, nltT, nltF, rD_len_Cell, hne, g1, v1, v2, v3, r0, r1]; rfl)) ?_
      refine RegO.opN 1 (by simp (maxSteps := 200000) (disch := first | omega | (simp; done) | fail) [wrapI, leT, leF, ltT, ltF, eqF, nleT, nleF, nltT, nltF, rD_len_Cell, hne, g1, v1, v2, v3, r0, r1]; rfl) ?_
      refine RegO.nil ?_
      refine DW.norm [(3, _), (4, _), (5, _), (6, _), (8, _), (9, _)] [(3, _), (6, _), (8, _), (56, _)] [] (by simp [rD_len_Cell, hne, g1, v1, v2, v3, r0, r1]; exact ⟨rfl, rfl, rfl, rfl, rfl, rfl⟩) (by simp [rD_len_Cell, hne, g1, v1, v2, v3, r0, r1]; exact ⟨rfl, rfl, rfl, rfl⟩) (by simp [rD_len_Cell, hne, g1, v1, v2, v3, r0, r1]) (by rfl) ?_
      refine DW.seq ?_
      refine DW.drawn mixed (by kernel_rfl) ?_
      refine RegD.addN 5 (by simp [rD_len_Cell, hne, g1, v1, v2, v3, r0, r1]; (first | (simp (disch := omega) only [wrapI, ltF, if_false]; done) | (simp (disch := omega) only [wrapI, ltF, if_false]; first | exact ⟨rfl, rfl⟩ | rfl) | skip); (first | done | exact ⟨rfl, rfl⟩ | rfl)) ?_
      refine RegD.cert (Cert.callHA rfl (by simp) rfl (by decide) (by simp [rD_len_Cell, hne, g1, v1, v2, v3, r0, r1]; exact ⟨rfl, rfl⟩) (by simp [rD_len_Cell, hne, g1, v1, v2, v3, r0, r1]; rfl) (by exact hfz) rfl (by simp) (by simp) (by simp; rfl) rfl) ?_
      refine RegD.cert (Cert.alloc rfl rfl rfl (by decide) (by simp; rfl) (by rfl) (by decide) (by simp)) ?_
      refine RegD.heavyF (by simp) (by simp [rD_len_Cell, hne, g1, v1, v2, v3, r0, r1]; rfl) ?_
      refine RegD.nil ⟨by kernel_rfl, ?_⟩
      refine DW.norm [(3, _), (4, _), (5, _), (6, _), (9, _), (10, _)] [(3, _), (6, _), (10, _), (56, _)] [] (by simp [rD_len_Cell, hne, g1, v1, v2, v3, r0, r1]; exact ⟨rfl, rfl, rfl, rfl, rfl, rfl⟩) (by simp [rD_len_Cell, hne, g1, v1, v2, v3, r0, r1]; exact ⟨rfl, rfl, rfl, rfl⟩) (by simp [rD_len_Cell, hne, g1, v1, v2, v3, r0, r1]) (by rfl) ?_
      refine DW.seq ?_
      refine DW.drawn mixed (by kernel_rfl) ?_
      refine RegD.addN 5 (by simp [rD_len_Cell, hne, g1, v1, v2, v3, r0, r1]; (first | (simp (disch := omega) only [wrapI, ltF, if_false]; done) | (simp (disch := omega) only [wrapI, ltF, if_false]; first | exact ⟨rfl, rfl⟩ | rfl) | skip); (first | done | exact ⟨rfl, rfl⟩ | rfl)) ?_
      refine RegD.cert (Cert.callHA rfl (by simp) rfl (by decide) (by simp [rD_len_Cell, hne, g1, v1, v2, v3, r0, r1]; exact ⟨rfl, rfl⟩) (by simp [rD_len_Cell, hne, g1, v1, v2, v3, r0, r1]; rfl) (by exact hfu) rfl (by simp) (by simp) (by simp; rfl) rfl) ?_
      refine RegD.addN 1 (by simp [rD_len_Cell, hne, g1, v1, v2, v3, r0, r1]; (first | (simp (disch := omega) only [wrapI, ltF, if_false]; done) | (simp (disch := omega) only [wrapI, ltF, if_false]; first | exact ⟨rfl, rfl⟩ | rfl) | skip); (first | done | exact ⟨rfl, rfl⟩ | rfl)) ?_
      refine RegD.cert (Cert.callA rfl (by simp) rfl (by decide) (by simp [rD_len_Cell, hne, g1, v1, v2, v3, r0, r1]; exact ⟨rfl, rfl⟩) (by simp [rD_len_Cell, hne, g1, v1, v2, v3, r0, r1]; rfl) (by exact implWordAt_spec ⟨ku, lu⟩ n (by simp only; omega) (by simp only; omega)) rfl (by simp) (by simp; rfl) rfl) ?_
      refine RegD.addN 1 (by simp [rD_len_Cell, hne, g1, v1, v2, v3, r0, r1]; (first | (simp (disch := omega) only [wrapI, ltF, if_false]; done) | (simp (disch := omega) only [wrapI, ltF, if_false]; first | exact ⟨rfl, rfl⟩ | rfl) | skip); (first | done | exact ⟨rfl, rfl⟩ | rfl)) ?_
      refine RegD.nil ⟨by kernel_rfl, ?_⟩
      refine DW.norm [(3, _), (4, _), (5, _), (6, _), (10, _), (11, _)] [(3, _), (6, _), (10, _)] [] (by simp [rD_len_Cell, hne, g1, v1, v2, v3, r0, r1]; exact ⟨rfl, rfl, rfl, rfl, rfl, rfl⟩) (by simp [rD_len_Cell, hne, g1, v1, v2, v3, r0, r1]; exact ⟨rfl, rfl, rfl⟩) (by simp [rD_len_Cell, hne, g1, v1, v2, v3, r0, r1]) (by rfl) ?_
      refine DW.seq ?_
      obtain ⟨o1, o2, o3, o4, o5, o6⟩ := hlaw
      simp only at o1 o2 o3 o4 o5 o6
      subst o5
      have o7 : wordM ⟨ku, lu⟩ n = w ∨ (¬ wordM ⟨ku, lu⟩ n = w ∧ wordM ⟨ku, lu⟩ n = wordM ⟨k, []⟩ n) := by
        rcases o4 with h | h
        · exact .inl h
        · by_cases h2 : wordM ⟨ku, lu⟩ n = w
          · exact .inl h2
          · exact .inr ⟨h2, h⟩
      rcases o7 with o7 | ⟨o7, o8⟩
      · skip
        refine DW.regs ?_
        refine RegO.opN 1 (by simp (maxSteps := 200000) (disch := first | omega | (simp; done) | fail) [wrapI, leT, leF, ltT, ltF, eqF, nleT, nleF, nltT, nltF, rD_len_Cell, hne, g1, v1, v2, v3, r0, r1, o1, o2, o3, o6, o7]; rfl) ?_
        refine RegO.step rfl (OpStep.callA rfl (by simp (maxSteps := 200000) (disch := first | omega | (simp; done) | fail) [wrapI, leT, leF, ltT, ltF, eqF, nleT, nleF, nltT, nltF, rD_len_Cell, hne, g1, v1, v2, v3, r0, r1, o1, o2, o3, o6, o7]; exact ⟨rfl, rfl⟩) (by simp (maxSteps := 200000) (disch := first | omega | (simp; done) | fail) [wrapI, leT, leF, ltT, ltF, eqF, nleT, nleF, nltT, nltF, rD_len_Cell, hne, g1, v1, v2, v3, r0, r1, o1, o2, o3, o6, o7]; rfl) (by exact memOk_spec kx lx hk1 hxl) (by simp) (by simp (maxSteps := 200000) (disch := first | omega | (simp; done) | fail) [wrapI, leT, leF, ltT, ltF, eqF, nleT, nleF, nltT, nltF, rD_len_Cell, hne, g1, v1, v2, v3, r0, r1, o1, o2, o3, o6, o7]; rfl)) ?_
        refine RegO.opN 3 (by simp (maxSteps := 200000) (disch := first | omega | (simp; done) | fail) [wrapI, leT, leF, ltT, ltF, eqF, nleT, nleF, nltT, nltF, rD_len_Cell, hne, g1, v1, v2, v3, r0, r1, o1, o2, o3, o6, o7]; rfl) ?_
        refine RegO.stepT (by simp (maxSteps := 200000) (disch := first | omega | (simp; done) | fail) [wrapI, leT, leF, ltT, ltF, eqF, nleT, nleF, nltT, nltF, rD_len_Cell, hne, g1, v1, v2, v3, r0, r1, o1, o2, o3, o6, o7]) (OpStep.callA rfl (by simp (maxSteps := 200000) (disch := first | omega | (simp; done) | fail) [wrapI, leT, leF, ltT, ltF, eqF, nleT, nleF, nltT, nltF, rD_len_Cell, hne, g1, v1, v2, v3, r0, r1, o1, o2, o3, o6, o7]; exact ⟨rfl, rfl⟩) (by simp (maxSteps := 200000) (disch := first | omega | (simp; done) | fail) [wrapI, leT, leF, ltT, ltF, eqF, nleT, nleF, nltT, nltF, rD_len_Cell, hne, g1, v1, v2, v3, r0, r1, o1, o2, o3, o6, o7]; rfl) (by exact (by first | exact implWordAt_spec ⟨kx, lx⟩ n hk1 hxl | exact implWordAt_spec ⟨kz, []⟩ n (by simp only; omega) (by simp))) (by simp) (by simp (maxSteps := 200000) (disch := first | omega | (simp; done) | fail) [wrapI, leT, leF, ltT, ltF, eqF, nleT, nleF, nltT, nltF, rD_len_Cell, hne, g1, v1, v2, v3, r0, r1, o1, o2, o3, o6, o7]; rfl)) ?_
        refine RegO.opN 6 (by simp (maxSteps := 200000) (disch := first | omega | (simp; done) | fail) [wrapI, leT, leF, ltT, ltF, eqF, nleT, nleF, nltT, nltF, rD_len_Cell, hne, g1, v1, v2, v3, r0, r1, o1, o2, o3, o6, o7]; rfl) ?_
        refine RegO.stepT (by simp (maxSteps := 200000) (disch := first | omega | (simp; done) | fail) [wrapI, leT, leF, ltT, ltF, eqF, nleT, nleF, nltT, nltF, rD_len_Cell, hne, g1, v1, v2, v3, r0, r1, o1, o2, o3, o6, o7]) (OpStep.callA rfl (by simp (maxSteps := 200000) (disch := first | omega | (simp; done) | fail) [wrapI, leT, leF, ltT, ltF, eqF, nleT, nleF, nltT, nltF, rD_len_Cell, hne, g1, v1, v2, v3, r0, r1, o1, o2, o3, o6, o7]; exact ⟨rfl, rfl⟩) (by simp (maxSteps := 200000) (disch := first | omega | (simp; done) | fail) [wrapI, leT, leF, ltT, ltF, eqF, nleT, nleF, nltT, nltF, rD_len_Cell, hne, g1, v1, v2, v3, r0, r1, o1, o2, o3, o6, o7]; rfl) (by exact (by first | exact implWordAt_spec ⟨kx, lx⟩ n hk1 hxl | exact implWordAt_spec ⟨kz, []⟩ n (by simp only; omega) (by simp))) (by simp) (by simp (maxSteps := 200000) (disch := first | omega | (simp; done) | fail) [wrapI, leT, leF, ltT, ltF, eqF, nleT, nleF, nltT, nltF, rD_len_Cell, hne, g1, v1, v2, v3, r0, r1, o1, o2, o3, o6, o7]; rfl)) ?_
        refine RegO.opN 40 (by simp (maxSteps := 200000) (disch := first | omega | (simp; done) | fail) [wrapI, leT, leF, ltT, ltF, eqF, nleT, nleF, nltT, nltF, rD_len_Cell, hne, g1, v1, v2, v3, r0, r1, o1, o2, o3, o6, o7]; rfl) ?_
        refine RegO.nil ?_
        refine DW.ret ?_
        simp [Try.results5]
      · rw [o8] at o7
        refine DW.regs ?_
        refine RegO.opN 1 (by simp (maxSteps := 200000) (disch := first | omega | (simp; done) | fail) [wrapI, leT, leF, ltT, ltF, eqF, nleT, nleF, nltT, nltF, rD_len_Cell, hne, g1, v1, v2, v3, r0, r1, o1, o2, o3, o6, o7, o8]; rfl) ?_
        refine RegO.step rfl (OpStep.callA rfl (by simp (maxSteps := 200000) (disch := first | omega | (simp; done) | fail) [wrapI, leT, leF, ltT, ltF, eqF, nleT, nleF, nltT, nltF, rD_len_Cell, hne, g1, v1, v2, v3, r0, r1, o1, o2, o3, o6, o7, o8]; exact ⟨rfl, rfl⟩) (by simp (maxSteps := 200000) (disch := first | omega | (simp; done) | fail) [wrapI, leT, leF, ltT, ltF, eqF, nleT, nleF, nltT, nltF, rD_len_Cell, hne, g1, v1, v2, v3, r0, r1, o1, o2, o3, o6, o7, o8]; rfl) (by exact memOk_spec kx lx hk1 hxl) (by simp) (by simp (maxSteps := 200000) (disch := first | omega | (simp; done) | fail) [wrapI, leT, leF, ltT, ltF, eqF, nleT, nleF, nltT, nltF, rD_len_Cell, hne, g1, v1, v2, v3, r0, r1, o1, o2, o3, o6, o7, o8]; rfl)) ?_
        refine RegO.opN 3 (by simp (maxSteps := 200000) (disch := first | omega | (simp; done) | fail) [wrapI, leT, leF, ltT, ltF, eqF, nleT, nleF, nltT, nltF, rD_len_Cell, hne, g1, v1, v2, v3, r0, r1, o1, o2, o3, o6, o7, o8]; rfl) ?_
        refine RegO.stepT (by simp (maxSteps := 200000) (disch := first | omega | (simp; done) | fail) [wrapI, leT, leF, ltT, ltF, eqF, nleT, nleF, nltT, nltF, rD_len_Cell, hne, g1, v1, v2, v3, r0, r1, o1, o2, o3, o6, o7, o8]) (OpStep.callA rfl (by simp (maxSteps := 200000) (disch := first | omega | (simp; done) | fail) [wrapI, leT, leF, ltT, ltF, eqF, nleT, nleF, nltT, nltF, rD_len_Cell, hne, g1, v1, v2, v3, r0, r1, o1, o2, o3, o6, o7, o8]; exact ⟨rfl, rfl⟩) (by simp (maxSteps := 200000) (disch := first | omega | (simp; done) | fail) [wrapI, leT, leF, ltT, ltF, eqF, nleT, nleF, nltT, nltF, rD_len_Cell, hne, g1, v1, v2, v3, r0, r1, o1, o2, o3, o6, o7, o8]; rfl) (by exact (by first | exact implWordAt_spec ⟨kx, lx⟩ n hk1 hxl | exact implWordAt_spec ⟨kz, []⟩ n (by simp only; omega) (by simp))) (by simp) (by simp (maxSteps := 200000) (disch := first | omega | (simp; done) | fail) [wrapI, leT, leF, ltT, ltF, eqF, nleT, nleF, nltT, nltF, rD_len_Cell, hne, g1, v1, v2, v3, r0, r1, o1, o2, o3, o6, o7, o8]; rfl)) ?_
        refine RegO.opN 6 (by simp (maxSteps := 200000) (disch := first | omega | (simp; done) | fail) [wrapI, leT, leF, ltT, ltF, eqF, nleT, nleF, nltT, nltF, rD_len_Cell, hne, g1, v1, v2, v3, r0, r1, o1, o2, o3, o6, o7, o8]; rfl) ?_
        refine RegO.stepT (by simp (maxSteps := 200000) (disch := first | omega | (simp; done) | fail) [wrapI, leT, leF, ltT, ltF, eqF, nleT, nleF, nltT, nltF, rD_len_Cell, hne, g1, v1, v2, v3, r0, r1, o1, o2, o3, o6, o7, o8]) (OpStep.callA rfl (by simp (maxSteps := 200000) (disch := first | omega | (simp; done) | fail) [wrapI, leT, leF, ltT, ltF, eqF, nleT, nleF, nltT, nltF, rD_len_Cell, hne, g1, v1, v2, v3, r0, r1, o1, o2, o3, o6, o7, o8]; exact ⟨rfl, rfl⟩) (by simp (maxSteps := 200000) (disch := first | omega | (simp; done) | fail) [wrapI, leT, leF, ltT, ltF, eqF, nleT, nleF, nltT, nltF, rD_len_Cell, hne, g1, v1, v2, v3, r0, r1, o1, o2, o3, o6, o7, o8]; rfl) (by exact (by first | exact implWordAt_spec ⟨kx, lx⟩ n hk1 hxl | exact implWordAt_spec ⟨kz, []⟩ n (by simp only; omega) (by simp))) (by simp) (by simp (maxSteps := 200000) (disch := first | omega | (simp; done) | fail) [wrapI, leT, leF, ltT, ltF, eqF, nleT, nleF, nltT, nltF, rD_len_Cell, hne, g1, v1, v2, v3, r0, r1, o1, o2, o3, o6, o7, o8]; rfl)) ?_
        refine RegO.opN 13 (by simp (maxSteps := 200000) (disch := first | omega | (simp; done) | fail) [wrapI, leT, leF, ltT, ltF, eqF, nleT, nleF, nltT, nltF, rD_len_Cell, hne, g1, v1, v2, v3, r0, r1, o1, o2, o3, o6, o7, o8]; rfl) ?_
        refine RegO.stepT (by simp (maxSteps := 200000) (disch := first | omega | (simp; done) | fail) [wrapI, leT, leF, ltT, ltF, eqF, nleT, nleF, nltT, nltF, rD_len_Cell, hne, g1, v1, v2, v3, r0, r1, o1, o2, o3, o6, o7, o8]) (OpStep.callA rfl (by simp (maxSteps := 200000) (disch := first | omega | (simp; done) | fail) [wrapI, leT, leF, ltT, ltF, eqF, nleT, nleF, nltT, nltF, rD_len_Cell, hne, g1, v1, v2, v3, r0, r1, o1, o2, o3, o6, o7, o8]; exact ⟨rfl, rfl⟩) (by simp (maxSteps := 200000) (disch := first | omega | (simp; done) | fail) [wrapI, leT, leF, ltT, ltF, eqF, nleT, nleF, nltT, nltF, rD_len_Cell, hne, g1, v1, v2, v3, r0, r1, o1, o2, o3, o6, o7, o8]; rfl) (by exact specWordAt_spec ⟨k, []⟩ n hk (by simp)) (by simp) (by simp (maxSteps := 200000) (disch := first | omega | (simp; done) | fail) [wrapI, leT, leF, ltT, ltF, eqF, nleT, nleF, nltT, nltF, rD_len_Cell, hne, g1, v1, v2, v3, r0, r1, o1, o2, o3, o6, o7, o8]; rfl)) ?_
        refine RegO.opN 26 (by simp (maxSteps := 200000) (disch := first | omega | (simp; done) | fail) [wrapI, leT, leF, ltT, ltF, eqF, nleT, nleF, nltT, nltF, rD_len_Cell, hne, g1, v1, v2, v3, r0, r1, o1, o2, o3, o6, o7, o8]; rfl) ?_
        refine RegO.nil ?_
        refine DW.ret ?_
        simp [Try.results5]
end Go.Proofs.Ytjjdjkkhhcbogaa.DM
