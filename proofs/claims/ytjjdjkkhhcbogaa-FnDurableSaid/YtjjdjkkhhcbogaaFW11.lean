import Derived.Test.YtjjdjkkhhcbogaaFW10
namespace Go.Proofs.Ytjjdjkkhhcbogaa.DM
set_option linter.unusedVariables false
set_option linter.unusedSimpArgs false
set_option maxRecDepth 4000
set_option maxHeartbeats 8000000
def inM (m : Memory) (x : Int) : Bool := memOk m.Kept m.Cells && inB x 0 ((m.Kept.size : Int) / 8 - 1)
def cutM (m : Memory) (x : Int) : ByteArray := (lineAt m.Kept m.Cells ((x.toNat / 2 : Nat) : Int)).extract (x.toNat % 2 * 8) (x.toNat % 2 * 8 + 8)
def wordM (m : Memory) (x : Int) : ByteArray := if inM m x then cutM m x else ByteArray.empty
theorem inM_nat {m : Memory} {x : Int} (h : inM m x = true) : memOk m.Kept m.Cells = true ∧ ∃ n : Nat, x = n ∧ n < m.Kept.size / 8 := by
  simp only [inM, inB, Bool.and_eq_true, decide_eq_true_eq] at h
  obtain ⟨n, hn⟩ := Int.eq_ofNat_of_zero_le h.2.1
  exact ⟨h.1, n, hn, by omega⟩

theorem big_spec (code : List UInt8) : Spec Try.prog 24 [ra code] [none] [db (decide ((1048576 : Int) < code.length))] [ra code] := by
  refine Spec.intro Try.func24 rfl rfl Try.ntmps24 rfl (by simp) ?_
  refine DW.seq ?_
  refine DW.reg (by simp (maxSteps := 200000) (disch := first | omega | (simp; done) | fail) [wrapI, leT, leF, ltT, ltF, eqF, nleT, nleF, nltT, nltF]; rfl) ?_
  refine DW.seq ?_
  refine DW.reg (by simp (maxSteps := 200000) (disch := first | omega | (simp; done) | fail) [wrapI, leT, leF, ltT, ltF, eqF, nleT, nleF, nltT, nltF]; rfl) ?_
  refine DW.ret ?_
  simp [Try.results24]
theorem isWordOf_spec (m : Memory) (x : Int) (hk : m.Kept.size < 2 ^ 40) (hl : m.Cells.length < 2 ^ 40) : Spec Try.prog 81 [raMemory m, ri x] [none] [db (inM m x)] [raMemory m, ri x] := by
  refine Spec.intro Try.func81 rfl rfl Try.ntmps81 rfl (by simp) ?_
  have wq : IntKind.i64.wrap ((m.Kept.size : Int) / 8 - 1) = (m.Kept.size : Int) / 8 - 1 := wr _ (by omega) (by omega)
  refine DW.seq ?_
  refine DW.reg (by simp (maxSteps := 200000) (disch := first | omega | (simp; done) | fail) [wrapI, leT, leF, ltT, ltF, eqF, nleT, nleF, nltT, nltF, wq]; rfl) ?_
  refine DW.seq ?_
  have hsp : ((memOk m.Kept m.Cells) = false) ∨ ((memOk m.Kept m.Cells) = true) := by
    cases (memOk m.Kept m.Cells) <;> simp
  rcases hsp with g0 | g0
  · skip
    refine DW.regs ?_
    refine RegO.opN 1 (by simp (maxSteps := 200000) (disch := first | omega | (simp; done) | fail) [wrapI, leT, leF, ltT, ltF, eqF, nleT, nleF, nltT, nltF, wq, g0]; rfl) ?_
    refine RegO.step rfl (OpStep.callA rfl (by simp (maxSteps := 200000) (disch := first | omega | (simp; done) | fail) [wrapI, leT, leF, ltT, ltF, eqF, nleT, nleF, nltT, nltF, wq, g0]; exact ⟨rfl, rfl⟩) (by simp (maxSteps := 200000) (disch := first | omega | (simp; done) | fail) [wrapI, leT, leF, ltT, ltF, eqF, nleT, nleF, nltT, nltF, wq, g0]; rfl) (by exact memOk_spec m.Kept m.Cells hk hl) (by simp) (by simp (maxSteps := 200000) (disch := first | omega | (simp; done) | fail) [wrapI, leT, leF, ltT, ltF, eqF, nleT, nleF, nltT, nltF, wq, g0]; rfl)) ?_
    refine RegO.opN 8 (by simp (maxSteps := 200000) (disch := first | omega | (simp; done) | fail) [wrapI, leT, leF, ltT, ltF, eqF, nleT, nleF, nltT, nltF, wq, g0]; rfl) ?_
    refine RegO.nil ?_
    refine DW.ret ?_
    simp [Try.results81, inM, g0]
  · skip
    refine DW.regs ?_
    refine RegO.opN 1 (by simp (maxSteps := 200000) (disch := first | omega | (simp; done) | fail) [wrapI, leT, leF, ltT, ltF, eqF, nleT, nleF, nltT, nltF, wq, g0]; rfl) ?_
    refine RegO.step rfl (OpStep.callA rfl (by simp (maxSteps := 200000) (disch := first | omega | (simp; done) | fail) [wrapI, leT, leF, ltT, ltF, eqF, nleT, nleF, nltT, nltF, wq, g0]; exact ⟨rfl, rfl⟩) (by simp (maxSteps := 200000) (disch := first | omega | (simp; done) | fail) [wrapI, leT, leF, ltT, ltF, eqF, nleT, nleF, nltT, nltF, wq, g0]; rfl) (by exact memOk_spec m.Kept m.Cells hk hl) (by simp) (by simp (maxSteps := 200000) (disch := first | omega | (simp; done) | fail) [wrapI, leT, leF, ltT, ltF, eqF, nleT, nleF, nltT, nltF, wq, g0]; rfl)) ?_
    refine RegO.opN 3 (by simp (maxSteps := 200000) (disch := first | omega | (simp; done) | fail) [wrapI, leT, leF, ltT, ltF, eqF, nleT, nleF, nltT, nltF, wq, g0]; rfl) ?_
    refine RegO.stepT (by simp (maxSteps := 200000) (disch := first | omega | (simp; done) | fail) [wrapI, leT, leF, ltT, ltF, eqF, nleT, nleF, nltT, nltF, wq, g0]) (OpStep.callA rfl (by simp (maxSteps := 200000) (disch := first | omega | (simp; done) | fail) [wrapI, leT, leF, ltT, ltF, eqF, nleT, nleF, nltT, nltF, wq, g0]; exact ⟨rfl, rfl⟩) (by simp (maxSteps := 200000) (disch := first | omega | (simp; done) | fail) [wrapI, leT, leF, ltT, ltF, eqF, nleT, nleF, nltT, nltF, wq, g0]; rfl) (by exact words_spec m.Kept m.Cells hk) (by simp) (by simp (maxSteps := 200000) (disch := first | omega | (simp; done) | fail) [wrapI, leT, leF, ltT, ltF, eqF, nleT, nleF, nltT, nltF, wq, g0]; rfl)) ?_
    refine RegO.opN 1 (by simp (maxSteps := 200000) (disch := first | omega | (simp; done) | fail) [wrapI, leT, leF, ltT, ltF, eqF, nleT, nleF, nltT, nltF, wq, g0]; rfl) ?_
    refine RegO.stepT (by simp (maxSteps := 200000) (disch := first | omega | (simp; done) | fail) [wrapI, leT, leF, ltT, ltF, eqF, nleT, nleF, nltT, nltF, wq, g0]) (OpStep.callA rfl (by simp (maxSteps := 200000) (disch := first | omega | (simp; done) | fail) [wrapI, leT, leF, ltT, ltF, eqF, nleT, nleF, nltT, nltF, wq, g0]; exact ⟨rfl, rfl⟩) (by simp (maxSteps := 200000) (disch := first | omega | (simp; done) | fail) [wrapI, leT, leF, ltT, ltF, eqF, nleT, nleF, nltT, nltF, wq, g0]; rfl) (by exact within_spec x 0 ((m.Kept.size : Int) / 8 - 1)) (by simp) (by simp (maxSteps := 200000) (disch := first | omega | (simp; done) | fail) [wrapI, leT, leF, ltT, ltF, eqF, nleT, nleF, nltT, nltF, wq, g0]; rfl)) ?_
    refine RegO.opN 2 (by simp (maxSteps := 200000) (disch := first | omega | (simp; done) | fail) [wrapI, leT, leF, ltT, ltF, eqF, nleT, nleF, nltT, nltF, wq, g0]; rfl) ?_
    refine RegO.nil ?_
    refine DW.ret ?_
    simp [Try.results81, inM, g0]
theorem word_spec (m : Memory) (n : Nat) (hok : memOk m.Kept m.Cells = true) (hn : n < m.Kept.size / 8) (hk : m.Kept.size < 2 ^ 40) (hl : m.Cells.length < 2 ^ 40) : Spec Try.prog 95 [raMemory m, ri n] [none] [ds (cutM m n)] [raMemory m, ri n] := by
  refine Spec.intro Try.func95 rfl rfl Try.ntmps95 rfl (by simp) ?_
  obtain ⟨q, hq⟩ : ∃ q : Nat, q = n / 2 := ⟨_, rfl⟩
  obtain ⟨e, he⟩ : ∃ e : Nat, e = n % 2 := ⟨_, rfl⟩
  obtain ⟨r, hr⟩ : ∃ r : Nat, r = e * 8 := ⟨_, rfl⟩
  obtain ⟨r2, hr2⟩ : ∃ r2 : Nat, r2 = r + 8 := ⟨_, rfl⟩
  obtain ⟨hm16, hsz, _⟩ := memOk_all hok
  have hls := lineAt_size hok (q : Int) (by omega) (by omega)
  have w1 : IntKind.i64.wrap ((n : Int) / 2) = (q : Int) := (wr _ (by omega) (by omega)).trans (by omega)
  have w1b : (n : Int) / 2 = (q : Int) := by omega
  have w1c : (n : Int).tdiv 2 = (q : Int) := by rw [Int.tdiv_eq_ediv_of_nonneg (by omega)]; omega
  have w2 : (n : Int).tmod 2 = (e : Int) := by rw [Int.tmod_eq_emod_of_nonneg (by omega)]; omega
  have w3 : IntKind.i64.wrap ((e : Int) * 8) = (r : Int) := (wr _ (by omega) (by omega)).trans (by omega)
  have w3b : (e : Int) * 8 = (r : Int) := by omega
  have w4 : IntKind.i64.wrap ((r : Int) + 8) = (r2 : Int) := (wr _ (by omega) (by omega)).trans (by omega)
  have w4b : (r : Int) + 8 = (r2 : Int) := by omega
  have wz : IntKind.i64.wrap (q : Int) = (q : Int) := wr _ (by omega) (by omega)
  have wr1 : IntKind.i64.wrap (r : Int) = (r : Int) := wr _ (by omega) (by omega)
  have wr2 : IntKind.i64.wrap (r2 : Int) = (r2 : Int) := wr _ (by omega) (by omega)
  have c1 : r ≤ r2 := by omega
  have c2 : r2 ≤ 16 := by omega
  have c3 : (r : Int) ≤ r2 := by omega
  have c4 : (r2 : Int) ≤ 16 := by omega
  have hcut : cutM m n = (lineAt m.Kept m.Cells (q : Int)).extract r r2 := by simp only [cutM, Int.toNat_natCast, ← hq, ← he, ← hr, ← hr2]
  rw [hcut]
  refine DW.seq ?_
  refine DW.reg (by simp [w1, w1b, w1c, w2, w3, w3b, w4, w4b, wz, wr1, wr2, c1, c2, c3, c4, hls]; rfl) ?_
  refine DW.seq ?_
  refine DW.reg (by simp [w1, w1b, w1c, w2, w3, w3b, w4, w4b, wz, wr1, wr2, c1, c2, c3, c4, hls]; rfl) ?_
  refine DW.seq ?_
  refine DW.regs ?_
  refine RegO.opN 3 (by simp [w1, w1b, w1c, w2, w3, w3b, w4, w4b, wz, wr1, wr2, c1, c2, c3, c4, hls]; rfl) ?_
  refine RegO.step rfl (OpStep.callA rfl (by simp [w1, w1b, w1c, w2, w3, w3b, w4, w4b, wz, wr1, wr2, c1, c2, c3, c4, hls]; exact ⟨rfl, rfl⟩) (by simp [w1, w1b, w1c, w2, w3, w3b, w4, w4b, wz, wr1, wr2, c1, c2, c3, c4, hls]; rfl) (by exact line_spec m.Kept m.Cells q hl (by omega) (by omega) hk) (by simp) (by simp [w1, w1b, w1c, w2, w3, w3b, w4, w4b, wz, wr1, wr2, c1, c2, c3, c4, hls]; rfl)) ?_
  refine RegO.opN 5 (by simp [w1, w1b, w1c, w2, w3, w3b, w4, w4b, wz, wr1, wr2, c1, c2, c3, c4, hls]; rfl) ?_
  refine RegO.nil ?_
  refine DW.ret ?_
  simp [Try.results95]
theorem l10Word_spec (m : Memory) (n : Nat) (hok : memOk m.Kept m.Cells = true) (hn : n < m.Kept.size / 8) (hk : m.Kept.size < 2 ^ 40) (hl : m.Cells.length < 2 ^ 40) : Spec Try.prog 88 [raMemory m, ri n] [none] [ds (cutM m n)] [raMemory m, ri n] := by
  refine Spec.intro Try.func88 rfl rfl Try.ntmps88 rfl (by simp) ?_
  obtain ⟨q, hq⟩ : ∃ q : Nat, q = n / 2 := ⟨_, rfl⟩
  obtain ⟨e, he⟩ : ∃ e : Nat, e = n % 2 := ⟨_, rfl⟩
  obtain ⟨r, hr⟩ : ∃ r : Nat, r = e * 8 := ⟨_, rfl⟩
  obtain ⟨r2, hr2⟩ : ∃ r2 : Nat, r2 = r + 8 := ⟨_, rfl⟩
  obtain ⟨hm16, hsz, _⟩ := memOk_all hok
  have hls := lineAt_size hok (q : Int) (by omega) (by omega)
  have w1 : IntKind.i64.wrap ((n : Int) / 2) = (q : Int) := (wr _ (by omega) (by omega)).trans (by omega)
  have w1b : (n : Int) / 2 = (q : Int) := by omega
  have w1c : (n : Int).tdiv 2 = (q : Int) := by rw [Int.tdiv_eq_ediv_of_nonneg (by omega)]; omega
  have w2 : (n : Int).tmod 2 = (e : Int) := by rw [Int.tmod_eq_emod_of_nonneg (by omega)]; omega
  have w3 : IntKind.i64.wrap ((e : Int) * 8) = (r : Int) := (wr _ (by omega) (by omega)).trans (by omega)
  have w3b : (e : Int) * 8 = (r : Int) := by omega
  have w4 : IntKind.i64.wrap ((r : Int) + 8) = (r2 : Int) := (wr _ (by omega) (by omega)).trans (by omega)
  have w4b : (r : Int) + 8 = (r2 : Int) := by omega
  have wz : IntKind.i64.wrap (q : Int) = (q : Int) := wr _ (by omega) (by omega)
  have wr1 : IntKind.i64.wrap (r : Int) = (r : Int) := wr _ (by omega) (by omega)
  have wr2 : IntKind.i64.wrap (r2 : Int) = (r2 : Int) := wr _ (by omega) (by omega)
  have c1 : r ≤ r2 := by omega
  have c2 : r2 ≤ 16 := by omega
  have c3 : (r : Int) ≤ r2 := by omega
  have c4 : (r2 : Int) ≤ 16 := by omega
  have hcut : cutM m n = (lineAt m.Kept m.Cells (q : Int)).extract r r2 := by simp only [cutM, Int.toNat_natCast, ← hq, ← he, ← hr, ← hr2]
  rw [hcut]
  have hlS := lineS_eq (line := (q : Int)) ((memOk_iff _ _).1 hok).2.2.2 m.Kept
  refine DW.seq ?_
  refine DW.reg (by simp [w1, w1b, w1c, w2, w3, w3b, w4, w4b, wz, wr1, wr2, c1, c2, c3, c4, hls]; rfl) ?_
  refine DW.seq ?_
  refine DW.regs ?_
  refine RegO.opN 3 (by simp [w1, w1b, w1c, w2, w3, w3b, w4, w4b, wz, wr1, wr2, c1, c2, c3, c4, hls]; rfl) ?_
  refine RegO.step rfl (OpStep.callA rfl (by simp [w1, w1b, w1c, w2, w3, w3b, w4, w4b, wz, wr1, wr2, c1, c2, c3, c4, hls]; exact ⟨rfl, rfl⟩) (by simp [w1, w1b, w1c, w2, w3, w3b, w4, w4b, wz, wr1, wr2, c1, c2, c3, c4, hls]; rfl) (by exact (hlS ▸ l10Line_spec m.Kept m.Cells q hl (by omega) (fun _ => by omega) hk)) (by simp) (by simp [w1, w1b, w1c, w2, w3, w3b, w4, w4b, wz, wr1, wr2, c1, c2, c3, c4, hls]; rfl)) ?_
  refine RegO.opN 1 (by simp [w1, w1b, w1c, w2, w3, w3b, w4, w4b, wz, wr1, wr2, c1, c2, c3, c4, hls]; rfl) ?_
  refine RegO.nil ?_
  refine DW.seq ?_
  refine DW.reg (by simp [w1, w1b, w1c, w2, w3, w3b, w4, w4b, wz, wr1, wr2, c1, c2, c3, c4, hls]; rfl) ?_
  refine DW.seq ?_
  refine DW.reg (by simp [w1, w1b, w1c, w2, w3, w3b, w4, w4b, wz, wr1, wr2, c1, c2, c3, c4, hls]; rfl) ?_
  refine DW.ret ?_
  simp [Try.results88]
theorem implWordAt_spec (m : Memory) (x : Int) (hk : m.Kept.size < 2 ^ 40) (hl : m.Cells.length < 2 ^ 40) : Spec Try.prog 35 [raMemory m, ri x] [none] [ds (wordM m x)] [raMemory m, ri x] := by
  refine Spec.intro Try.func35 rfl rfl Try.ntmps35 rfl (by simp) ?_
  refine DW.seq ?_
  refine DW.reg (by simp (maxSteps := 200000) (disch := first | omega | (simp; done) | fail) [wrapI, leT, leF, ltT, ltF, eqF, nleT, nleF, nltT, nltF]; rfl) ?_
  refine DW.seq ?_
  refine DW.seq ?_
  refine DW.regs ?_
  refine RegO.opN 2 (by simp (maxSteps := 200000) (disch := first | omega | (simp; done) | fail) [wrapI, leT, leF, ltT, ltF, eqF, nleT, nleF, nltT, nltF]; rfl) ?_
  refine RegO.step rfl (OpStep.callA rfl (by simp (maxSteps := 200000) (disch := first | omega | (simp; done) | fail) [wrapI, leT, leF, ltT, ltF, eqF, nleT, nleF, nltT, nltF]; exact ⟨rfl, rfl⟩) (by simp (maxSteps := 200000) (disch := first | omega | (simp; done) | fail) [wrapI, leT, leF, ltT, ltF, eqF, nleT, nleF, nltT, nltF]; rfl) (by exact isWordOf_spec m x hk hl) (by simp) (by simp (maxSteps := 200000) (disch := first | omega | (simp; done) | fail) [wrapI, leT, leF, ltT, ltF, eqF, nleT, nleF, nltT, nltF]; rfl)) ?_
  refine RegO.opN 1 (by simp (maxSteps := 200000) (disch := first | omega | (simp; done) | fail) [wrapI, leT, leF, ltT, ltF, eqF, nleT, nleF, nltT, nltF]; rfl) ?_
  refine RegO.nil ?_
  refine DW.condB (by simp (maxSteps := 200000) (disch := first | omega | (simp; done) | fail) [wrapI, leT, leF, ltT, ltF, eqF, nleT, nleF, nltT, nltF]; exact rfl) (fun hc0 => ?_) (fun hc0 => ?_)
  · have hin0 : inM m x = false := by simpa using hc0
    have hres : wordM m x = ByteArray.empty := by simp [wordM, hin0]
    rw [hres]
    refine DW.seq ?_
    refine DW.reg (by simp (maxSteps := 200000) (disch := first | omega | (simp; done) | fail) [wrapI, leT, leF, ltT, ltF, eqF, nleT, nleF, nltT, nltF]; rfl) ?_
    refine DW.ret ?_
    simp [Try.results35]
  · have hin0 : inM m x = true := by simpa using hc0
    have hres : wordM m x = cutM m x := by simp [wordM, hin0]
    have hin := inM_nat hin0
    obtain ⟨n, hxn, hn⟩ := hin.2
    rw [hres]
    subst hxn
    refine DW.skip ?_
    refine DW.seq ?_
    refine DW.regs ?_
    refine RegO.opN 2 (by simp (maxSteps := 200000) (disch := first | omega | (simp; done) | fail) [wrapI, leT, leF, ltT, ltF, eqF, nleT, nleF, nltT, nltF]; rfl) ?_
    refine RegO.step rfl (OpStep.callA rfl (by simp (maxSteps := 200000) (disch := first | omega | (simp; done) | fail) [wrapI, leT, leF, ltT, ltF, eqF, nleT, nleF, nltT, nltF]; exact ⟨rfl, rfl⟩) (by simp (maxSteps := 200000) (disch := first | omega | (simp; done) | fail) [wrapI, leT, leF, ltT, ltF, eqF, nleT, nleF, nltT, nltF]; rfl) (by exact word_spec m n hin.1 hn hk hl) (by simp) (by simp (maxSteps := 200000) (disch := first | omega | (simp; done) | fail) [wrapI, leT, leF, ltT, ltF, eqF, nleT, nleF, nltT, nltF]; rfl)) ?_
    refine RegO.opN 1 (by simp (maxSteps := 200000) (disch := first | omega | (simp; done) | fail) [wrapI, leT, leF, ltT, ltF, eqF, nleT, nleF, nltT, nltF]; rfl) ?_
    refine RegO.nil ?_
    refine DW.ret ?_
    simp [Try.results35]
theorem specWordAt_spec (m : Memory) (x : Int) (hk : m.Kept.size < 2 ^ 40) (hl : m.Cells.length < 2 ^ 40) : Spec Try.prog 29 [raMemory m, ri x] [none] [ds (wordM m x)] [raMemory m, ri x] := by
  refine Spec.intro Try.func29 rfl rfl Try.ntmps29 rfl (by simp) ?_
  have wq : IntKind.i64.wrap ((m.Kept.size : Int) / 8 - 1) = (m.Kept.size : Int) / 8 - 1 := wr _ (by omega) (by omega)
  refine DW.seq ?_
  refine DW.reg (by simp (maxSteps := 200000) (disch := first | omega | (simp; done) | fail) [wrapI, leT, leF, ltT, ltF, eqF, nleT, nleF, nltT, nltF, wq]; rfl) ?_
  refine DW.seq ?_
  refine DW.seq ?_
  have hsp : ((memOk m.Kept m.Cells) = false) ∨ ((memOk m.Kept m.Cells) = true) := by
    cases (memOk m.Kept m.Cells) <;> simp
  rcases hsp with g0 | g0
  · skip
    have hres : wordM m x = ByteArray.empty := by simp [wordM, inM, g0]
    rw [hres]
    refine DW.regs ?_
    refine RegO.opN 1 (by simp (maxSteps := 200000) (disch := first | omega | (simp; done) | fail) [wrapI, leT, leF, ltT, ltF, eqF, nleT, nleF, nltT, nltF, wq, g0]; rfl) ?_
    refine RegO.step rfl (OpStep.callA rfl (by simp (maxSteps := 200000) (disch := first | omega | (simp; done) | fail) [wrapI, leT, leF, ltT, ltF, eqF, nleT, nleF, nltT, nltF, wq, g0]; exact ⟨rfl, rfl⟩) (by simp (maxSteps := 200000) (disch := first | omega | (simp; done) | fail) [wrapI, leT, leF, ltT, ltF, eqF, nleT, nleF, nltT, nltF, wq, g0]; rfl) (by exact specOk_spec m.Kept m.Cells hk hl) (by simp) (by simp (maxSteps := 200000) (disch := first | omega | (simp; done) | fail) [wrapI, leT, leF, ltT, ltF, eqF, nleT, nleF, nltT, nltF, wq, g0]; rfl)) ?_
    refine RegO.opN 9 (by simp (maxSteps := 200000) (disch := first | omega | (simp; done) | fail) [wrapI, leT, leF, ltT, ltF, eqF, nleT, nleF, nltT, nltF, wq, g0]; rfl) ?_
    refine RegO.nil ?_
    refine DW.condT (by simp (maxSteps := 200000) (disch := first | omega | (simp; done) | fail) [wrapI, leT, leF, ltT, ltF, eqF, nleT, nleF, nltT, nltF, wq, g0]) ?_
    refine DW.seq ?_
    refine DW.reg (by simp (maxSteps := 200000) (disch := first | omega | (simp; done) | fail) [wrapI, leT, leF, ltT, ltF, eqF, nleT, nleF, nltT, nltF, wq, g0]; rfl) ?_
    refine DW.ret ?_
    simp [Try.results29]
  · skip
    refine DW.regs ?_
    refine RegO.opN 1 (by simp (maxSteps := 200000) (disch := first | omega | (simp; done) | fail) [wrapI, leT, leF, ltT, ltF, eqF, nleT, nleF, nltT, nltF, wq, g0]; rfl) ?_
    refine RegO.step rfl (OpStep.callA rfl (by simp (maxSteps := 200000) (disch := first | omega | (simp; done) | fail) [wrapI, leT, leF, ltT, ltF, eqF, nleT, nleF, nltT, nltF, wq, g0]; exact ⟨rfl, rfl⟩) (by simp (maxSteps := 200000) (disch := first | omega | (simp; done) | fail) [wrapI, leT, leF, ltT, ltF, eqF, nleT, nleF, nltT, nltF, wq, g0]; rfl) (by exact specOk_spec m.Kept m.Cells hk hl) (by simp) (by simp (maxSteps := 200000) (disch := first | omega | (simp; done) | fail) [wrapI, leT, leF, ltT, ltF, eqF, nleT, nleF, nltT, nltF, wq, g0]; rfl)) ?_
    refine RegO.opN 4 (by simp (maxSteps := 200000) (disch := first | omega | (simp; done) | fail) [wrapI, leT, leF, ltT, ltF, eqF, nleT, nleF, nltT, nltF, wq, g0]; rfl) ?_
    refine RegO.stepT (by simp (maxSteps := 200000) (disch := first | omega | (simp; done) | fail) [wrapI, leT, leF, ltT, ltF, eqF, nleT, nleF, nltT, nltF, wq, g0]) (OpStep.callA rfl (by simp (maxSteps := 200000) (disch := first | omega | (simp; done) | fail) [wrapI, leT, leF, ltT, ltF, eqF, nleT, nleF, nltT, nltF, wq, g0]; exact ⟨rfl, rfl⟩) (by simp (maxSteps := 200000) (disch := first | omega | (simp; done) | fail) [wrapI, leT, leF, ltT, ltF, eqF, nleT, nleF, nltT, nltF, wq, g0]; rfl) (by exact l10Words_spec m.Kept m.Cells hk) (by simp) (by simp (maxSteps := 200000) (disch := first | omega | (simp; done) | fail) [wrapI, leT, leF, ltT, ltF, eqF, nleT, nleF, nltT, nltF, wq, g0]; rfl)) ?_
    refine RegO.opN 1 (by simp (maxSteps := 200000) (disch := first | omega | (simp; done) | fail) [wrapI, leT, leF, ltT, ltF, eqF, nleT, nleF, nltT, nltF, wq, g0]; rfl) ?_
    refine RegO.stepT (by simp (maxSteps := 200000) (disch := first | omega | (simp; done) | fail) [wrapI, leT, leF, ltT, ltF, eqF, nleT, nleF, nltT, nltF, wq, g0]) (OpStep.callA rfl (by simp (maxSteps := 200000) (disch := first | omega | (simp; done) | fail) [wrapI, leT, leF, ltT, ltF, eqF, nleT, nleF, nltT, nltF, wq, g0]; exact ⟨rfl, rfl⟩) (by simp (maxSteps := 200000) (disch := first | omega | (simp; done) | fail) [wrapI, leT, leF, ltT, ltF, eqF, nleT, nleF, nltT, nltF, wq, g0]; rfl) (by exact l01In_spec x 0 ((m.Kept.size : Int) / 8 - 1)) (by simp) (by simp (maxSteps := 200000) (disch := first | omega | (simp; done) | fail) [wrapI, leT, leF, ltT, ltF, eqF, nleT, nleF, nltT, nltF, wq, g0]; rfl)) ?_
    refine RegO.opN 2 (by simp (maxSteps := 200000) (disch := first | omega | (simp; done) | fail) [wrapI, leT, leF, ltT, ltF, eqF, nleT, nleF, nltT, nltF, wq, g0]; rfl) ?_
    refine RegO.nil ?_
    refine DW.condB (by simp (maxSteps := 200000) (disch := first | omega | (simp; done) | fail) [wrapI, leT, leF, ltT, ltF, eqF, nleT, nleF, nltT, nltF, wq, g0]; exact rfl) (fun hc0 => ?_) (fun hc0 => ?_)
    · have hin0 : inM m x = false := by simp only [inM, g0, Bool.true_and]; simpa using hc0
      have hres : wordM m x = ByteArray.empty := by simp [wordM, hin0]
      rw [hres]
      refine DW.seq ?_
      refine DW.reg (by simp (maxSteps := 200000) (disch := first | omega | (simp; done) | fail) [wrapI, leT, leF, ltT, ltF, eqF, nleT, nleF, nltT, nltF, wq, g0]; rfl) ?_
      refine DW.ret ?_
      simp [Try.results29]
    · have hin0 : inM m x = true := by simp only [inM, g0, Bool.true_and]; simpa using hc0
      have hres : wordM m x = cutM m x := by simp [wordM, hin0]
      have hin := inM_nat hin0
      obtain ⟨n, hxn, hn⟩ := hin.2
      rw [hres]
      subst hxn
      refine DW.skip ?_
      refine DW.seq ?_
      refine DW.regs ?_
      refine RegO.opN 2 (by simp (maxSteps := 200000) (disch := first | omega | (simp; done) | fail) [wrapI, leT, leF, ltT, ltF, eqF, nleT, nleF, nltT, nltF, wq, g0]; rfl) ?_
      refine RegO.step rfl (OpStep.callA rfl (by simp (maxSteps := 200000) (disch := first | omega | (simp; done) | fail) [wrapI, leT, leF, ltT, ltF, eqF, nleT, nleF, nltT, nltF, wq, g0]; exact ⟨rfl, rfl⟩) (by simp (maxSteps := 200000) (disch := first | omega | (simp; done) | fail) [wrapI, leT, leF, ltT, ltF, eqF, nleT, nleF, nltT, nltF, wq, g0]; rfl) (by exact l10Word_spec m n hin.1 hn hk hl) (by simp) (by simp (maxSteps := 200000) (disch := first | omega | (simp; done) | fail) [wrapI, leT, leF, ltT, ltF, eqF, nleT, nleF, nltT, nltF, wq, g0]; rfl)) ?_
      refine RegO.opN 1 (by simp (maxSteps := 200000) (disch := first | omega | (simp; done) | fail) [wrapI, leT, leF, ltT, ltF, eqF, nleT, nleF, nltT, nltF, wq, g0]; rfl) ?_
      refine RegO.nil ?_
      refine DW.ret ?_
      simp [Try.results29]
end Go.Proofs.Ytjjdjkkhhcbogaa.DM
