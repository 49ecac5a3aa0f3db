import Derived.Test.YtciieaidbiejmaaFQ1
namespace Go.Proofs.Ytciieaidbiejmaa.DM
set_option linter.unusedVariables false
set_option linter.unusedSimpArgs false
set_option maxRecDepth 4000
set_option maxHeartbeats 8000000
theorem within_spec (x lo hi : Int) : Spec Try.prog 47 [ri x, ri lo, ri hi] [none] [db (inB x lo hi)] [ri x, ri lo, ri hi] := by
  refine Spec.intro Try.func47 rfl rfl Try.ntmps47 rfl (by simp) ?_
  refine DW.seq ?_
  refine DW.reg (by simp (maxSteps := 200000) (disch := first | omega | (simp; done) | fail) [wrapI, leT, leF, ltT, ltF, eqF, nleT, nleF, nltT, nltF]; rfl) ?_
  refine DW.seq ?_
  have hsp : ((decide (lo ≤ x)) = false) ∨ ((decide (lo ≤ x)) = true) := by
    cases (decide (lo ≤ x)) <;> simp
  rcases hsp with g0 | g0
  · skip
    refine DW.reg (by simp (maxSteps := 200000) (disch := first | omega | (simp; done) | fail) [wrapI, leT, leF, ltT, ltF, eqF, nleT, nleF, nltT, nltF, g0]; rfl) ?_
    refine DW.ret ?_
    simp [Try.results47, inB, g0]
  · skip
    refine DW.reg (by simp (maxSteps := 200000) (disch := first | omega | (simp; done) | fail) [wrapI, leT, leF, ltT, ltF, eqF, nleT, nleF, nltT, nltF, g0]; rfl) ?_
    refine DW.ret ?_
    simp [Try.results47, inB, g0]
theorem implGeoOk_true (g : Geo) (hg : geoG g) : Spec Try.prog 28 [raGeo g] [none] [db true] [raGeo g] := by
  refine Spec.intro Try.func28 rfl rfl Try.ntmps28 rfl (by simp) ?_
  obtain ⟨q1, q2, q3, q4, q5, q6, q7, q8⟩ := hg
  have hA : inB g.Tenants 1 3 = true := inB_iff.2 ⟨by omega, by omega⟩
  have hB : inB g.Pages 5 12 = true := inB_iff.2 ⟨by omega, by omega⟩
  have hC : inB g.Inodes 2 6 = true := inB_iff.2 ⟨by omega, by omega⟩
  have hD : inB g.Quota 1 (g.Pages - 4) = true := inB_iff.2 ⟨by omega, by omega⟩
  refine DW.seq ?_
  refine DW.reg (by simp (maxSteps := 200000) (disch := first | omega | (simp; done) | fail) [wrapI, leT, leF, ltT, ltF, eqF, nleT, nleF, nltT, nltF, hA, hB, hC, hD]; rfl) ?_
  refine DW.seq ?_
  refine DW.regs ?_
  refine RegO.opN 2 (by simp (maxSteps := 200000) (disch := first | omega | (simp; done) | fail) [wrapI, leT, leF, ltT, ltF, eqF, nleT, nleF, nltT, nltF, hA, hB, hC, hD]; rfl) ?_
  refine RegO.step rfl (OpStep.callA rfl (by simp (maxSteps := 200000) (disch := first | omega | (simp; done) | fail) [wrapI, leT, leF, ltT, ltF, eqF, nleT, nleF, nltT, nltF, hA, hB, hC, hD]; exact ⟨rfl, rfl⟩) (by simp (maxSteps := 200000) (disch := first | omega | (simp; done) | fail) [wrapI, leT, leF, ltT, ltF, eqF, nleT, nleF, nltT, nltF, hA, hB, hC, hD]; rfl) (by exact within_spec _ _ _) (by simp) (by simp (maxSteps := 200000) (disch := first | omega | (simp; done) | fail) [wrapI, leT, leF, ltT, ltF, eqF, nleT, nleF, nltT, nltF, hA, hB, hC, hD]; rfl)) ?_
  refine RegO.opN 3 (by simp (maxSteps := 200000) (disch := first | omega | (simp; done) | fail) [wrapI, leT, leF, ltT, ltF, eqF, nleT, nleF, nltT, nltF, hA, hB, hC, hD]; rfl) ?_
  refine RegO.stepT (by simp (maxSteps := 200000) (disch := first | omega | (simp; done) | fail) [wrapI, leT, leF, ltT, ltF, eqF, nleT, nleF, nltT, nltF, hA, hB, hC, hD]) (OpStep.callA rfl (by simp (maxSteps := 200000) (disch := first | omega | (simp; done) | fail) [wrapI, leT, leF, ltT, ltF, eqF, nleT, nleF, nltT, nltF, hA, hB, hC, hD]; exact ⟨rfl, rfl⟩) (by simp (maxSteps := 200000) (disch := first | omega | (simp; done) | fail) [wrapI, leT, leF, ltT, ltF, eqF, nleT, nleF, nltT, nltF, hA, hB, hC, hD]; rfl) (by exact within_spec _ _ _) (by simp) (by simp (maxSteps := 200000) (disch := first | omega | (simp; done) | fail) [wrapI, leT, leF, ltT, ltF, eqF, nleT, nleF, nltT, nltF, hA, hB, hC, hD]; rfl)) ?_
  refine RegO.opN 4 (by simp (maxSteps := 200000) (disch := first | omega | (simp; done) | fail) [wrapI, leT, leF, ltT, ltF, eqF, nleT, nleF, nltT, nltF, hA, hB, hC, hD]; rfl) ?_
  refine RegO.stepT (by simp (maxSteps := 200000) (disch := first | omega | (simp; done) | fail) [wrapI, leT, leF, ltT, ltF, eqF, nleT, nleF, nltT, nltF, hA, hB, hC, hD]) (OpStep.callA rfl (by simp (maxSteps := 200000) (disch := first | omega | (simp; done) | fail) [wrapI, leT, leF, ltT, ltF, eqF, nleT, nleF, nltT, nltF, hA, hB, hC, hD]; exact ⟨rfl, rfl⟩) (by simp (maxSteps := 200000) (disch := first | omega | (simp; done) | fail) [wrapI, leT, leF, ltT, ltF, eqF, nleT, nleF, nltT, nltF, hA, hB, hC, hD]; rfl) (by exact within_spec _ _ _) (by simp) (by simp (maxSteps := 200000) (disch := first | omega | (simp; done) | fail) [wrapI, leT, leF, ltT, ltF, eqF, nleT, nleF, nltT, nltF, hA, hB, hC, hD]; rfl)) ?_
  refine RegO.opN 7 (by simp (maxSteps := 200000) (disch := first | omega | (simp; done) | fail) [wrapI, leT, leF, ltT, ltF, eqF, nleT, nleF, nltT, nltF, hA, hB, hC, hD]; rfl) ?_
  refine RegO.stepT (by simp (maxSteps := 200000) (disch := first | omega | (simp; done) | fail) [wrapI, leT, leF, ltT, ltF, eqF, nleT, nleF, nltT, nltF, hA, hB, hC, hD]) (OpStep.callA rfl (by simp (maxSteps := 200000) (disch := first | omega | (simp; done) | fail) [wrapI, leT, leF, ltT, ltF, eqF, nleT, nleF, nltT, nltF, hA, hB, hC, hD]; exact ⟨rfl, rfl⟩) (by simp (maxSteps := 200000) (disch := first | omega | (simp; done) | fail) [wrapI, leT, leF, ltT, ltF, eqF, nleT, nleF, nltT, nltF, hA, hB, hC, hD]; rfl) (by exact within_spec _ _ _) (by simp) (by simp (maxSteps := 200000) (disch := first | omega | (simp; done) | fail) [wrapI, leT, leF, ltT, ltF, eqF, nleT, nleF, nltT, nltF, hA, hB, hC, hD]; rfl)) ?_
  refine RegO.opN 2 (by simp (maxSteps := 200000) (disch := first | omega | (simp; done) | fail) [wrapI, leT, leF, ltT, ltF, eqF, nleT, nleF, nltT, nltF, hA, hB, hC, hD]; rfl) ?_
  refine RegO.nil ?_
  refine DW.ret ?_
  simp [Try.results28, hA, hB, hC, hD]
theorem implPagesFor_spec (n : Nat) (hn : n < 2 ^ 40) : Spec Try.prog 48 [ri n] [none] [di (pagesFor n)] [ri n] := by
  refine Spec.intro Try.func48 rfl rfl Try.ntmps48 rfl (by simp) ?_
  obtain ⟨q, hq⟩ : ∃ q, q = n / 32 := ⟨_, rfl⟩
  obtain ⟨r, hr⟩ : ∃ r, r = n % 32 := ⟨_, rfl⟩
  have w1 : (n : Int).tdiv 32 = (q : Int) := by rw [Int.tdiv_eq_ediv_of_nonneg (by omega)]; omega
  have w2 : (n : Int).tmod 32 = (r : Int) := by rw [Int.tmod_eq_emod_of_nonneg (by omega)]; omega
  have w3 : IntKind.i64.wrap (q : Int) = (q : Int) := wr _ (by omega) (by omega)
  have w4 : IntKind.i64.wrap (r : Int) = (r : Int) := wr _ (by omega) (by omega)
  have w5 : IntKind.i64.wrap ((q : Int) + 1) = (q : Int) + 1 := wr _ (by omega) (by omega)
  refine DW.seq ?_
  refine DW.reg (by simp (maxSteps := 200000) (disch := first | omega | (simp; done) | fail) [wrapI, leT, leF, ltT, ltF, eqF, nleT, nleF, nltT, nltF, w1, w2, w3, w4, w5]; rfl) ?_
  refine DW.seq ?_
  refine DW.seq ?_
  refine DW.reg (by simp (maxSteps := 200000) (disch := first | omega | (simp; done) | fail) [wrapI, leT, leF, ltT, ltF, eqF, nleT, nleF, nltT, nltF, w1, w2, w3, w4, w5]; rfl) ?_
  refine DW.condF (by simp (maxSteps := 200000) (disch := first | omega | (simp; done) | fail) [wrapI, leT, leF, ltT, ltF, eqF, nleT, nleF, nltT, nltF, w1, w2, w3, w4, w5]) ?_
  refine DW.skip ?_
  refine DW.seq ?_
  refine DW.reg (by simp (maxSteps := 200000) (disch := first | omega | (simp; done) | fail) [wrapI, leT, leF, ltT, ltF, eqF, nleT, nleF, nltT, nltF, w1, w2, w3, w4, w5]; rfl) ?_
  refine DW.seq ?_
  refine DW.seq ?_
  refine DW.reg (by simp (maxSteps := 200000) (disch := first | omega | (simp; done) | fail) [wrapI, leT, leF, ltT, ltF, eqF, nleT, nleF, nltT, nltF, w1, w2, w3, w4, w5]; rfl) ?_
  refine DW.condB (by simp (maxSteps := 200000) (disch := first | omega | (simp; done) | fail) [wrapI, leT, leF, ltT, ltF, eqF, nleT, nleF, nltT, nltF, w1, w2, w3, w4, w5]; exact rfl) (fun hc1 => ?_) (fun hc1 => ?_)
  · have h0 : (0 : Int) < r := by simpa using hc1
    have hp : (pagesFor n : Int) = (q : Int) + 1 := by unfold pagesFor; omega
    refine DW.reg (by simp (maxSteps := 200000) (disch := first | omega | (simp; done) | fail) [wrapI, leT, leF, ltT, ltF, eqF, nleT, nleF, nltT, nltF, w1, w2, w3, w4, w5]; rfl) ?_
    refine DW.seq ?_
    refine DW.reg (by simp (maxSteps := 200000) (disch := first | omega | (simp; done) | fail) [wrapI, leT, leF, ltT, ltF, eqF, nleT, nleF, nltT, nltF, w1, w2, w3, w4, w5]; rfl) ?_
    refine DW.ret ?_
    simp [Try.results48, hp]
  · have h0 : ¬ (0 : Int) < r := by simpa using hc1
    have hp : (pagesFor n : Int) = (q : Int) := by unfold pagesFor; omega
    refine DW.skip ?_
    refine DW.seq ?_
    refine DW.reg (by simp (maxSteps := 200000) (disch := first | omega | (simp; done) | fail) [wrapI, leT, leF, ltT, ltF, eqF, nleT, nleF, nltT, nltF, w1, w2, w3, w4, w5]; rfl) ?_
    refine DW.ret ?_
    simp [Try.results48, hp]
theorem implPagesIn_spec (l : List Item) (hs : Small l) : Spec Try.prog 29 [raV l] [none] [di (pagesIn l)] [raV l] := by
  refine Spec.intro Try.func29 rfl rfl Try.ntmps29 rfl (by simp) ?_
  have hs1 := hs.1
  refine DW.seq ?_
  refine DW.reg (by simp (maxSteps := 200000) (disch := first | omega | (simp; done) | fail) [wrapI, leT, leF, ltT, ltF, eqF, nleT, nleF, nltT, nltF]; rfl) ?_
  refine DW.seq ?_
  refine DW.reg (by simp (maxSteps := 200000) (disch := first | omega | (simp; done) | fail) [wrapI, leT, leF, ltT, ltF, eqF, nleT, nleF, nltT, nltF]; rfl) ?_
  refine DW.seq ?_
  refine DW.seq ?_
  refine DW.reg (by simp (maxSteps := 200000) (disch := first | omega | (simp; done) | fail) [wrapI, leT, leF, ltT, ltF, eqF, nleT, nleF, nltT, nltF]; rfl) ?_
  refine DW.block ?_
  refine DW.loopS (α := Nat) (fun i => i ≤ l.length) (fun i => l.length - i) (fun i => [(9, vi i), (3, vi (pagesIn (l.take i)))]) (fun i => []) [(7, _), (8, _)] [(1, _)] [] 0 (Nat.zero_le _) (by simp [pagesIn]; exact ⟨rfl, rfl⟩) (by simp [pagesIn]; exact rfl) (by simp) (by rfl) ?_
  intro i hi
  refine DW.seq ?_
  refine DW.reg (by simp (maxSteps := 200000) (disch := first | omega | (simp; done) | fail) [wrapI, leT, leF, ltT, ltF, eqF, nleT, nleF, nltT, nltF]; rfl) ?_
  refine DW.seq ?_
  refine DW.condB (by simp (maxSteps := 200000) (disch := first | omega | (simp; done) | fail) [wrapI, leT, leF, ltT, ltF, eqF, nleT, nleF, nltT, nltF]; exact rfl) (fun hc0 => ?_) (fun hc0 => ?_)
  · have hlt : i < l.length := by simpa using hc0
    have hlt1 : (i : Int) < l.length := by omega
    have hd := rR_drop_Item l i hlt
    have hw := wr ((i : Int) + 1) (by omega) (by omega)
    have hS := pagesIn_succ l i hlt
    have hsz := (hs.2 _ (List.getElem_mem hlt)).2
    have hpb := pagesIn_bd (l := l.take i) fun x hx => (hs.2 x (List.mem_of_mem_take hx)).2
    rw [List.length_take, Nat.min_eq_left hi] at hpb
    have hpx : i * 1048576 ≤ 1048576 * 1048576 := Nat.mul_le_mul_right _ (by omega)
    generalize pagesIn (l.take i) = n0 at *
    generalize hci : l[i] = c at *
    refine DW.skip ?_
    refine DW.seq ?_
    refine DW.block ?_
    refine DW.seq ?_
    refine DW.reg (by simp [hlt1, hd, hw]; rfl) ?_
    refine DW.seq ?_
    refine DW.reg (by simp (maxSteps := 200000) (disch := first | omega | (simp; done) | fail) [wrapI, leT, leF, ltT, ltF, eqF, nleT, nleF, nltT, nltF, hlt1, hd, hw]; rfl) ?_
    refine DW.condB (by simp (maxSteps := 200000) (disch := first | omega | (simp; done) | fail) [wrapI, leT, leF, ltT, ltF, eqF, nleT, nleF, nltT, nltF, hlt1, hd, hw]; exact rfl) (fun hc1 => ?_) (fun hc1 => ?_)
    · have hcd : c.Dir = false := by simpa using hc1
      have hX : pagesX c = pagesFor c.Text.size := by unfold pagesX; rw [hcd]; rfl
      have hpf := pagesX_bd hsz
      rw [hX] at hS hpf
      have wn : IntKind.i64.wrap ((n0 : Int) + pagesFor c.Text.size) = (n0 : Int) + pagesFor c.Text.size := wr _ (by omega) (by omega)
      refine DW.regs ?_
      refine RegO.opN 4 (by simp (maxSteps := 200000) (disch := first | omega | (simp; done) | fail) [wrapI, leT, leF, ltT, ltF, eqF, nleT, nleF, nltT, nltF, hlt1, hd, hw, wn]; rfl) ?_
      refine RegO.step rfl (OpStep.callA rfl (by simp (maxSteps := 200000) (disch := first | omega | (simp; done) | fail) [wrapI, leT, leF, ltT, ltF, eqF, nleT, nleF, nltT, nltF, hlt1, hd, hw, wn]; exact ⟨rfl, rfl⟩) (by simp (maxSteps := 200000) (disch := first | omega | (simp; done) | fail) [wrapI, leT, leF, ltT, ltF, eqF, nleT, nleF, nltT, nltF, hlt1, hd, hw, wn]; rfl) (by exact implPagesFor_spec c.Text.size (by omega)) (by simp) (by simp (maxSteps := 200000) (disch := first | omega | (simp; done) | fail) [wrapI, leT, leF, ltT, ltF, eqF, nleT, nleF, nltT, nltF, hlt1, hd, hw, wn]; rfl)) ?_
      refine RegO.opN 2 (by simp (maxSteps := 200000) (disch := first | omega | (simp; done) | fail) [wrapI, leT, leF, ltT, ltF, eqF, nleT, nleF, nltT, nltF, hlt1, hd, hw, wn]; rfl) ?_
      refine RegO.nil ?_
      refine DW.reg (by simp (maxSteps := 200000) (disch := first | omega | (simp; done) | fail) [wrapI, leT, leF, ltT, ltF, eqF, nleT, nleF, nltT, nltF, hlt1, hd, hw, wn]; rfl) ?_
      exact ⟨i + 1, hlt, by omega, by simp [hS], by simp, by simp, by rfl⟩
    · have hcd : c.Dir = true := by simpa using hc1
      have hX : pagesX c = 0 := by unfold pagesX; rw [hcd]; rfl
      rw [hX] at hS
      refine DW.skip ?_
      refine DW.reg (by simp (maxSteps := 200000) (disch := first | omega | (simp; done) | fail) [wrapI, leT, leF, ltT, ltF, eqF, nleT, nleF, nltT, nltF, hlt1, hd, hw]; rfl) ?_
      exact ⟨i + 1, hlt, by omega, by simp [hS], by simp, by simp, by rfl⟩
  · have hil : i = l.length := by
      have : ¬ i < l.length := by simpa using hc0
      omega
    subst hil
    rw [List.take_length]
    refine DW.exit ?_
    refine DW.seq ?_
    refine DW.reg (by simp (maxSteps := 200000) (disch := first | omega | (simp; done) | fail) [wrapI, leT, leF, ltT, ltF, eqF, nleT, nleF, nltT, nltF]; rfl) ?_
    refine DW.ret ?_
    simp [Try.results29]
end Go.Proofs.Ytciieaidbiejmaa.DM
