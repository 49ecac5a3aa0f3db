import Derived.Test.YtciieaidbiejmaaDoorLT5
import Derived.Test.YtciieaidbiejmaaDoorLT6
namespace Go.Proofs.YtciieaidbiejmaaDoor.DM
set_option linter.unusedVariables false
set_option linter.unusedSimpArgs false
set_option maxRecDepth 4000
set_option maxHeartbeats 8000000
abbrev actV (a : Act) : List Value := [.int .i64 a.Kind, .int .i64 a.Tenant, .int .i64 a.Ask.Kind, .string a.Ask.Path, .string a.Ask.To, .int .i64 a.Ask.Off, .int .i64 a.Ask.Len, .string a.Ask.Text, .int .i64 a.Picks]
def eqAct (a b : Act) : Bool := a.Kind == b.Kind && (a.Tenant == b.Tenant && (eqA a.Ask b.Ask && (a.Picks == b.Picks && true)))
theorem eqAct_iff {a b : Act} : eqAct a b = true ↔ a = b := by
  cases a; cases b
  simp [eqAct, eqA_iff]
theorem eqAct_comm (a b : Act) : eqAct a b = eqAct b a := by
  rw [Bool.eq_iff_iff, eqAct_iff, eqAct_iff]; exact eq_comm
def actOkB (a : Act) : Bool := inB a.Kind 1 3 && (inB a.Tenant 0 2 && decide (0 ≤ a.Picks))
abbrev askZ : Ask := ⟨0, ByteArray.empty, ByteArray.empty, 0, 0, ByteArray.empty⟩
def actLine (a : Act) : ByteArray := if actOkB a = true ∧ a.Picks ≤ 1000000000 then
    (if a.Kind = 1 then (if a.Picks = 0 ∧ askLine a.Ask ≠ ByteArray.empty then ⟨#[97, 115, 107, 32]⟩ ++ (decB a.Tenant ++ (⟨#[32]⟩ ++ askLine a.Ask)) else ByteArray.empty)
    else if a.Kind = 2 then (if eqAct a ⟨2, a.Tenant, askZ, 0⟩ = true then ⟨#[115, 116, 101, 112, 32]⟩ ++ decB a.Tenant else ByteArray.empty)
    else (if eqAct a ⟨3, 0, askZ, a.Picks⟩ = true then ⟨#[102, 97, 108, 108, 32]⟩ ++ decB a.Picks else ByteArray.empty))
  else ByteArray.empty
theorem told1 (a : Act) : eqAct ⟨a.Kind, a.Tenant, a.Ask, 0⟩ a = (0 == a.Picks) := by
  rw [Bool.eq_iff_iff, eqAct_iff]; cases a; simp
theorem told2 (a : Act) (h : a.Kind = 2) : eqAct ⟨a.Kind, a.Tenant, askZ, 0⟩ a = eqAct a ⟨2, a.Tenant, askZ, 0⟩ := by rw [h, eqAct_comm]
theorem told3 (a : Act) (h : a.Kind = 3) : eqAct ⟨a.Kind, 0, askZ, a.Picks⟩ a = eqAct a ⟨3, 0, askZ, a.Picks⟩ := by rw [h, eqAct_comm]
theorem askLine_size (a : Ask) : (askLine a).size ≤ 1000 := by
  unfold askLine
  split
  · rename_i h
    obtain ⟨h0, h1, h2, h3, h4, h5⟩ := h
    have hk := h0
    simp only [askOkB, Bool.and_eq_true, decide_eq_true_eq, inB_iff] at hk
    have hw := (word_get a.Kind hk.1.1 hk.1.2).2
    have hp : a.Path.size ≤ 100 := by
      simp only [plainP, Bool.and_eq_true, inB_iff] at h2; omega
    have ho := inB_iff.1 h4
    have hl := inB_iff.1 h5
    have hdo := decB_size a.Off (by omega) (by omega)
    have hdl := decB_size a.Len (by omega) (by omega)
    have hdx := dashB_size a.Text
    have ht : (askTail a).size ≤ 500 := by
      unfold askTail
      split
      · rename_i e
        have := h3 e
        simp only [plainP, Bool.and_eq_true, inB_iff] at this
        simp; omega
      · split
        · simp; omega
        · split
          · simp; omega
          · split
            · simp; omega
            · show 0 ≤ _; omega
    simp; omega
  · show 0 ≤ _; omega
theorem eqAct_run (a b : Act) (dp : Nat) (w : Go.World) : (Op.equalIn (dp + 3) 34 (.agg (actV a).toArray) (.agg (actV b).toArray)).run Tryd.prog w = .ok (eqAct a b) w := by
  refine eqA_of Tryd.underlying34 (by kernel_rfl) ?_
  refine eqf_cons rfl (by rfl) (by rfl) (eqI_of Tryd.underlying3) ?_
  refine eqf_cons rfl (by rfl) (by rfl) (eqI_of Tryd.underlying3) ?_
  refine eqf_cons rfl (by rfl) (by rfl) (eqAsk_run a.Ask b.Ask dp w) ?_
  refine eqf_cons rfl (by rfl) (by rfl) (eqI_of Tryd.underlying3) ?_
  exact eqf_nil
theorem specActOk_spec (a : Act) : Spec Tryd.prog 59 [raAct a] [none] [db (actOkB a)] [raAct a] := by
  refine Spec.intro Tryd.func59 rfl rfl Tryd.ntmps59 rfl (by simp) ?_
  refine DW.seq ?_
  refine DW.reg (by simp (maxSteps := 200000) (disch := first | omega | (simp; done) | fail) [wrapI, leT, leF, ltT, ltF, eqF, nleT, nleF, nltT, nltF]; rfl) ?_
  refine DW.seq ?_
  have hsp : ((inB a.Kind 1 3) = false) ∨ ((inB a.Kind 1 3) = true ∧ (inB a.Tenant 0 2) = false) ∨ ((inB a.Kind 1 3) = true ∧ (inB a.Tenant 0 2) = true) := by
    cases (inB a.Kind 1 3) <;> cases (inB a.Tenant 0 2) <;> simp
  rcases hsp with g0 | ⟨g0, g1⟩ | ⟨g0, g1⟩
  · skip
    refine DW.regs ?_
    refine RegO.opN 2 (by simp (maxSteps := 200000) (disch := first | omega | (simp; done) | fail) [wrapI, leT, leF, ltT, ltF, eqF, nleT, nleF, nltT, nltF, g0]; rfl) ?_
    refine RegO.step rfl (OpStep.callA rfl (by simp (maxSteps := 200000) (disch := first | omega | (simp; done) | fail) [wrapI, leT, leF, ltT, ltF, eqF, nleT, nleF, nltT, nltF, g0]; exact ⟨rfl, rfl⟩) (by simp (maxSteps := 200000) (disch := first | omega | (simp; done) | fail) [wrapI, leT, leF, ltT, ltF, eqF, nleT, nleF, nltT, nltF, g0]; rfl) (by exact l01In_spec _ _ _) (by simp) (by simp (maxSteps := 200000) (disch := first | omega | (simp; done) | fail) [wrapI, leT, leF, ltT, ltF, eqF, nleT, nleF, nltT, nltF, g0]; rfl)) ?_
    refine RegO.opN 11 (by simp (maxSteps := 200000) (disch := first | omega | (simp; done) | fail) [wrapI, leT, leF, ltT, ltF, eqF, nleT, nleF, nltT, nltF, g0]; rfl) ?_
    refine RegO.nil ?_
    refine DW.ret ?_
    simp [Tryd.results59, actOkB, g0]
  · skip
    refine DW.regs ?_
    refine RegO.opN 2 (by simp (maxSteps := 200000) (disch := first | omega | (simp; done) | fail) [wrapI, leT, leF, ltT, ltF, eqF, nleT, nleF, nltT, nltF, g0, g1]; rfl) ?_
    refine RegO.step rfl (OpStep.callA rfl (by simp (maxSteps := 200000) (disch := first | omega | (simp; done) | fail) [wrapI, leT, leF, ltT, ltF, eqF, nleT, nleF, nltT, nltF, g0, g1]; exact ⟨rfl, rfl⟩) (by simp (maxSteps := 200000) (disch := first | omega | (simp; done) | fail) [wrapI, leT, leF, ltT, ltF, eqF, nleT, nleF, nltT, nltF, g0, g1]; rfl) (by exact l01In_spec _ _ _) (by simp) (by simp (maxSteps := 200000) (disch := first | omega | (simp; done) | fail) [wrapI, leT, leF, ltT, ltF, eqF, nleT, nleF, nltT, nltF, g0, g1]; rfl)) ?_
    refine RegO.opN 3 (by simp (maxSteps := 200000) (disch := first | omega | (simp; done) | fail) [wrapI, leT, leF, ltT, ltF, eqF, nleT, nleF, nltT, nltF, g0, g1]; rfl) ?_
    refine RegO.stepT (by simp (maxSteps := 200000) (disch := first | omega | (simp; done) | fail) [wrapI, leT, leF, ltT, ltF, eqF, nleT, nleF, nltT, nltF, g0, g1]) (OpStep.callA rfl (by simp (maxSteps := 200000) (disch := first | omega | (simp; done) | fail) [wrapI, leT, leF, ltT, ltF, eqF, nleT, nleF, nltT, nltF, g0, g1]; exact ⟨rfl, rfl⟩) (by simp (maxSteps := 200000) (disch := first | omega | (simp; done) | fail) [wrapI, leT, leF, ltT, ltF, eqF, nleT, nleF, nltT, nltF, g0, g1]; rfl) (by exact l01In_spec _ _ _) (by simp) (by simp (maxSteps := 200000) (disch := first | omega | (simp; done) | fail) [wrapI, leT, leF, ltT, ltF, eqF, nleT, nleF, nltT, nltF, g0, g1]; rfl)) ?_
    refine RegO.opN 7 (by simp (maxSteps := 200000) (disch := first | omega | (simp; done) | fail) [wrapI, leT, leF, ltT, ltF, eqF, nleT, nleF, nltT, nltF, g0, g1]; rfl) ?_
    refine RegO.nil ?_
    refine DW.ret ?_
    simp [Tryd.results59, actOkB, g0, g1]
  · skip
    refine DW.regs ?_
    refine RegO.opN 2 (by simp (maxSteps := 200000) (disch := first | omega | (simp; done) | fail) [wrapI, leT, leF, ltT, ltF, eqF, nleT, nleF, nltT, nltF, g0, g1]; rfl) ?_
    refine RegO.step rfl (OpStep.callA rfl (by simp (maxSteps := 200000) (disch := first | omega | (simp; done) | fail) [wrapI, leT, leF, ltT, ltF, eqF, nleT, nleF, nltT, nltF, g0, g1]; exact ⟨rfl, rfl⟩) (by simp (maxSteps := 200000) (disch := first | omega | (simp; done) | fail) [wrapI, leT, leF, ltT, ltF, eqF, nleT, nleF, nltT, nltF, g0, g1]; rfl) (by exact l01In_spec _ _ _) (by simp) (by simp (maxSteps := 200000) (disch := first | omega | (simp; done) | fail) [wrapI, leT, leF, ltT, ltF, eqF, nleT, nleF, nltT, nltF, g0, g1]; rfl)) ?_
    refine RegO.opN 3 (by simp (maxSteps := 200000) (disch := first | omega | (simp; done) | fail) [wrapI, leT, leF, ltT, ltF, eqF, nleT, nleF, nltT, nltF, g0, g1]; rfl) ?_
    refine RegO.stepT (by simp (maxSteps := 200000) (disch := first | omega | (simp; done) | fail) [wrapI, leT, leF, ltT, ltF, eqF, nleT, nleF, nltT, nltF, g0, g1]) (OpStep.callA rfl (by simp (maxSteps := 200000) (disch := first | omega | (simp; done) | fail) [wrapI, leT, leF, ltT, ltF, eqF, nleT, nleF, nltT, nltF, g0, g1]; exact ⟨rfl, rfl⟩) (by simp (maxSteps := 200000) (disch := first | omega | (simp; done) | fail) [wrapI, leT, leF, ltT, ltF, eqF, nleT, nleF, nltT, nltF, g0, g1]; rfl) (by exact l01In_spec _ _ _) (by simp) (by simp (maxSteps := 200000) (disch := first | omega | (simp; done) | fail) [wrapI, leT, leF, ltT, ltF, eqF, nleT, nleF, nltT, nltF, g0, g1]; rfl)) ?_
    refine RegO.opN 7 (by simp (maxSteps := 200000) (disch := first | omega | (simp; done) | fail) [wrapI, leT, leF, ltT, ltF, eqF, nleT, nleF, nltT, nltF, g0, g1]; rfl) ?_
    refine RegO.nil ?_
    refine DW.ret ?_
    simp [Tryd.results59, actOkB, g0, g1]
theorem implActOk_spec (a : Act) : Spec Tryd.prog 60 [raAct a] [none] [db (actOkB a)] [raAct a] := by
  refine Spec.intro Tryd.func60 rfl rfl Tryd.ntmps60 rfl (by simp) ?_
  refine DW.seq ?_
  refine DW.reg (by simp (maxSteps := 200000) (disch := first | omega | (simp; done) | fail) [wrapI, leT, leF, ltT, ltF, eqF, nleT, nleF, nltT, nltF]; rfl) ?_
  refine DW.seq ?_
  have hsp : ((inB a.Kind 1 3) = false) ∨ ((inB a.Kind 1 3) = true ∧ (inB a.Tenant 0 2) = false) ∨ ((inB a.Kind 1 3) = true ∧ (inB a.Tenant 0 2) = true) := by
    cases (inB a.Kind 1 3) <;> cases (inB a.Tenant 0 2) <;> simp
  rcases hsp with g0 | ⟨g0, g1⟩ | ⟨g0, g1⟩
  · skip
    refine DW.regs ?_
    refine RegO.opN 2 (by simp (maxSteps := 200000) (disch := first | omega | (simp; done) | fail) [wrapI, leT, leF, ltT, ltF, eqF, nleT, nleF, nltT, nltF, g0]; rfl) ?_
    refine RegO.step rfl (OpStep.callA rfl (by simp (maxSteps := 200000) (disch := first | omega | (simp; done) | fail) [wrapI, leT, leF, ltT, ltF, eqF, nleT, nleF, nltT, nltF, g0]; exact ⟨rfl, rfl⟩) (by simp (maxSteps := 200000) (disch := first | omega | (simp; done) | fail) [wrapI, leT, leF, ltT, ltF, eqF, nleT, nleF, nltT, nltF, g0]; rfl) (by exact within_spec _ _ _) (by simp) (by simp (maxSteps := 200000) (disch := first | omega | (simp; done) | fail) [wrapI, leT, leF, ltT, ltF, eqF, nleT, nleF, nltT, nltF, g0]; rfl)) ?_
    refine RegO.opN 11 (by simp (maxSteps := 200000) (disch := first | omega | (simp; done) | fail) [wrapI, leT, leF, ltT, ltF, eqF, nleT, nleF, nltT, nltF, g0]; rfl) ?_
    refine RegO.nil ?_
    refine DW.ret ?_
    simp [Tryd.results60, actOkB, g0]
  · skip
    refine DW.regs ?_
    refine RegO.opN 2 (by simp (maxSteps := 200000) (disch := first | omega | (simp; done) | fail) [wrapI, leT, leF, ltT, ltF, eqF, nleT, nleF, nltT, nltF, g0, g1]; rfl) ?_
    refine RegO.step rfl (OpStep.callA rfl (by simp (maxSteps := 200000) (disch := first | omega | (simp; done) | fail) [wrapI, leT, leF, ltT, ltF, eqF, nleT, nleF, nltT, nltF, g0, g1]; exact ⟨rfl, rfl⟩) (by simp (maxSteps := 200000) (disch := first | omega | (simp; done) | fail) [wrapI, leT, leF, ltT, ltF, eqF, nleT, nleF, nltT, nltF, g0, g1]; rfl) (by exact within_spec _ _ _) (by simp) (by simp (maxSteps := 200000) (disch := first | omega | (simp; done) | fail) [wrapI, leT, leF, ltT, ltF, eqF, nleT, nleF, nltT, nltF, g0, g1]; rfl)) ?_
    refine RegO.opN 3 (by simp (maxSteps := 200000) (disch := first | omega | (simp; done) | fail) [wrapI, leT, leF, ltT, ltF, eqF, nleT, nleF, nltT, nltF, g0, g1]; rfl) ?_
    refine RegO.stepT (by simp (maxSteps := 200000) (disch := first | omega | (simp; done) | fail) [wrapI, leT, leF, ltT, ltF, eqF, nleT, nleF, nltT, nltF, g0, g1]) (OpStep.callA rfl (by simp (maxSteps := 200000) (disch := first | omega | (simp; done) | fail) [wrapI, leT, leF, ltT, ltF, eqF, nleT, nleF, nltT, nltF, g0, g1]; exact ⟨rfl, rfl⟩) (by simp (maxSteps := 200000) (disch := first | omega | (simp; done) | fail) [wrapI, leT, leF, ltT, ltF, eqF, nleT, nleF, nltT, nltF, g0, g1]; rfl) (by exact within_spec _ _ _) (by simp) (by simp (maxSteps := 200000) (disch := first | omega | (simp; done) | fail) [wrapI, leT, leF, ltT, ltF, eqF, nleT, nleF, nltT, nltF, g0, g1]; rfl)) ?_
    refine RegO.opN 7 (by simp (maxSteps := 200000) (disch := first | omega | (simp; done) | fail) [wrapI, leT, leF, ltT, ltF, eqF, nleT, nleF, nltT, nltF, g0, g1]; rfl) ?_
    refine RegO.nil ?_
    refine DW.ret ?_
    simp [Tryd.results60, actOkB, g0, g1]
  · skip
    refine DW.regs ?_
    refine RegO.opN 2 (by simp (maxSteps := 200000) (disch := first | omega | (simp; done) | fail) [wrapI, leT, leF, ltT, ltF, eqF, nleT, nleF, nltT, nltF, g0, g1]; rfl) ?_
    refine RegO.step rfl (OpStep.callA rfl (by simp (maxSteps := 200000) (disch := first | omega | (simp; done) | fail) [wrapI, leT, leF, ltT, ltF, eqF, nleT, nleF, nltT, nltF, g0, g1]; exact ⟨rfl, rfl⟩) (by simp (maxSteps := 200000) (disch := first | omega | (simp; done) | fail) [wrapI, leT, leF, ltT, ltF, eqF, nleT, nleF, nltT, nltF, g0, g1]; rfl) (by exact within_spec _ _ _) (by simp) (by simp (maxSteps := 200000) (disch := first | omega | (simp; done) | fail) [wrapI, leT, leF, ltT, ltF, eqF, nleT, nleF, nltT, nltF, g0, g1]; rfl)) ?_
    refine RegO.opN 3 (by simp (maxSteps := 200000) (disch := first | omega | (simp; done) | fail) [wrapI, leT, leF, ltT, ltF, eqF, nleT, nleF, nltT, nltF, g0, g1]; rfl) ?_
    refine RegO.stepT (by simp (maxSteps := 200000) (disch := first | omega | (simp; done) | fail) [wrapI, leT, leF, ltT, ltF, eqF, nleT, nleF, nltT, nltF, g0, g1]) (OpStep.callA rfl (by simp (maxSteps := 200000) (disch := first | omega | (simp; done) | fail) [wrapI, leT, leF, ltT, ltF, eqF, nleT, nleF, nltT, nltF, g0, g1]; exact ⟨rfl, rfl⟩) (by simp (maxSteps := 200000) (disch := first | omega | (simp; done) | fail) [wrapI, leT, leF, ltT, ltF, eqF, nleT, nleF, nltT, nltF, g0, g1]; rfl) (by exact within_spec _ _ _) (by simp) (by simp (maxSteps := 200000) (disch := first | omega | (simp; done) | fail) [wrapI, leT, leF, ltT, ltF, eqF, nleT, nleF, nltT, nltF, g0, g1]; rfl)) ?_
    refine RegO.opN 7 (by simp (maxSteps := 200000) (disch := first | omega | (simp; done) | fail) [wrapI, leT, leF, ltT, ltF, eqF, nleT, nleF, nltT, nltF, g0, g1]; rfl) ?_
    refine RegO.nil ?_
    refine DW.ret ?_
    simp [Tryd.results60, actOkB, g0, g1]
theorem specActLine_spec (a : Act) (hz0 : Row.sz a ≤ 2 ^ 36) (ho : IntOk a.Ask.Off) (hl : IntOk a.Ask.Len) (ht : IntOk a.Tenant) (hp : IntOk a.Picks) : Spec Tryd.prog 15 [raAct a] [none] [ds (actLine a)] [raAct a] := by
  refine Spec.intro Tryd.func15 rfl rfl Tryd.ntmps15 rfl (by simp) ?_
  have hz := Act_sz a
  have hsz0 : Row.sz a.Ask ≤ 2 ^ 36 := by omega
  have hdt := decB_size a.Tenant ht.1 ht.2
  have hdp := decB_size a.Picks hp.1 hp.2
  have hls := askLine_size a.Ask
  refine DW.seq ?_
  refine DW.reg (by simp (maxSteps := 200000) (disch := first | omega | (simp; done) | fail) [wrapI, leT, leF, ltT, ltF, eqF, nleT, nleF, nltT, nltF]; rfl) ?_
  refine DW.seq ?_
  refine DW.seq ?_
  have hsp : actOkB a = false ∨ (actOkB a = true ∧ a.Kind = 1) ∨ (actOkB a = true ∧ a.Kind = 2) ∨ (actOkB a = true ∧ a.Kind = 3) := by
    cases h : actOkB a
    · exact .inl rfl
    · simp only [actOkB, Bool.and_eq_true, inB_iff] at h
      have h1 := h.1
      simp only [Bool.true_eq_false, true_and, false_or]; omega
  rcases hsp with g0 | ⟨g0, hk⟩ | ⟨g0, hk⟩ | ⟨g0, hk⟩
  · have hres : actLine a = ByteArray.empty := by simp [actLine, g0]
    refine DW.regs ?_
    refine RegO.opN 1 (by simp (maxSteps := 200000) (disch := first | omega | (simp; done) | fail) [wrapI, leT, leF, ltT, ltF, eqF, nleT, nleF, nltT, nltF, g0]; rfl) ?_
    refine RegO.step rfl (OpStep.callA rfl (by simp (maxSteps := 200000) (disch := first | omega | (simp; done) | fail) [wrapI, leT, leF, ltT, ltF, eqF, nleT, nleF, nltT, nltF, g0]; exact ⟨rfl, rfl⟩) (by simp (maxSteps := 200000) (disch := first | omega | (simp; done) | fail) [wrapI, leT, leF, ltT, ltF, eqF, nleT, nleF, nltT, nltF, g0]; rfl) (by exact specActOk_spec a) (by simp) (by simp (maxSteps := 200000) (disch := first | omega | (simp; done) | fail) [wrapI, leT, leF, ltT, ltF, eqF, nleT, nleF, nltT, nltF, g0]; rfl)) ?_
    refine RegO.opN 1 (by simp (maxSteps := 200000) (disch := first | omega | (simp; done) | fail) [wrapI, leT, leF, ltT, ltF, eqF, nleT, nleF, nltT, nltF, g0]; rfl) ?_
    refine RegO.nil ?_
    refine DW.condT (by simp (maxSteps := 200000) (disch := first | omega | (simp; done) | fail) [wrapI, leT, leF, ltT, ltF, eqF, nleT, nleF, nltT, nltF, g0]) ?_
    refine DW.seq ?_
    refine DW.reg (by simp (maxSteps := 200000) (disch := first | omega | (simp; done) | fail) [wrapI, leT, leF, ltT, ltF, eqF, nleT, nleF, nltT, nltF, g0]; rfl) ?_
    refine DW.ret ?_
    rw [hres]
    simp [Tryd.results15]
  · have k1 : (a.Kind == 1) = true := by simp [hk]
    have k2 : (a.Kind == 2) = false := by simp [hk]
    have k3 : (a.Kind == 3) = false := by simp [hk]
    refine DW.regs ?_
    refine RegO.opN 1 (by simp (maxSteps := 200000) (disch := first | omega | (simp; done) | fail) [wrapI, leT, leF, ltT, ltF, eqF, nleT, nleF, nltT, nltF, g0, k1, k2, k3]; rfl) ?_
    refine RegO.step rfl (OpStep.callA rfl (by simp (maxSteps := 200000) (disch := first | omega | (simp; done) | fail) [wrapI, leT, leF, ltT, ltF, eqF, nleT, nleF, nltT, nltF, g0, k1, k2, k3]; exact ⟨rfl, rfl⟩) (by simp (maxSteps := 200000) (disch := first | omega | (simp; done) | fail) [wrapI, leT, leF, ltT, ltF, eqF, nleT, nleF, nltT, nltF, g0, k1, k2, k3]; rfl) (by exact specActOk_spec a) (by simp) (by simp (maxSteps := 200000) (disch := first | omega | (simp; done) | fail) [wrapI, leT, leF, ltT, ltF, eqF, nleT, nleF, nltT, nltF, g0, k1, k2, k3]; rfl)) ?_
    refine RegO.opN 1 (by simp (maxSteps := 200000) (disch := first | omega | (simp; done) | fail) [wrapI, leT, leF, ltT, ltF, eqF, nleT, nleF, nltT, nltF, g0, k1, k2, k3]; rfl) ?_
    refine RegO.nil ?_
    refine DW.condF (by simp (maxSteps := 200000) (disch := first | omega | (simp; done) | fail) [wrapI, leT, leF, ltT, ltF, eqF, nleT, nleF, nltT, nltF, g0, k1, k2, k3]) ?_
    refine DW.skip ?_
    refine DW.seq ?_
    refine DW.reg (by simp [g0, k1, k2, k3]; rfl) ?_
    refine DW.norm [(1, _), (3, _)] [(1, _), (3, _)] [] (by simp [g0, k1, k2, k3]; exact ⟨rfl, rfl⟩) (by simp [g0, k1, k2, k3]; exact ⟨rfl, rfl⟩) (by simp [g0, k1, k2, k3]) (by rfl) ?_
    refine DW.seq ?_
    refine DW.reg (by simp (maxSteps := 200000) (disch := first | omega | (simp; done) | fail) [wrapI, leT, leF, ltT, ltF, eqF, nleT, nleF, nltT, nltF, g0, k1, k2, k3]; rfl) ?_
    refine DW.seq ?_
    refine DW.seq ?_
    refine DW.reg (by simp (maxSteps := 200000) (disch := first | omega | (simp; done) | fail) [wrapI, leT, leF, ltT, ltF, eqF, nleT, nleF, nltT, nltF, g0, k1, k2, k3]; rfl) ?_
    refine DW.block ?_
    refine DW.seq ?_
    refine DW.reg (by simp (maxSteps := 200000) (disch := first | omega | (simp; done) | fail) [wrapI, leT, leF, ltT, ltF, eqF, nleT, nleF, nltT, nltF, g0, k1, k2, k3]; rfl) ?_
    refine DW.condT (by simp (maxSteps := 200000) (disch := first | omega | (simp; done) | fail) [wrapI, leT, leF, ltT, ltF, eqF, nleT, nleF, nltT, nltF, g0, k1, k2, k3]) ?_
    refine DW.seq ?_
    refine DW.reg (by simp [g0, k1, k2, k3]; rfl) ?_
    refine DW.norm [(1, _), (3, _)] [(1, _), (3, _)] [] (by simp [g0, k1, k2, k3]; exact ⟨rfl, rfl⟩) (by simp [g0, k1, k2, k3]; exact ⟨rfl, rfl⟩) (by simp [g0, k1, k2, k3]) (by rfl) ?_
    refine DW.seq ?_
    refine DW.regs ?_
    refine RegO.opN 2 (by simp (maxSteps := 200000) (disch := first | omega | (simp; done) | fail) [wrapI, leT, leF, ltT, ltF, eqF, nleT, nleF, nltT, nltF, g0, k1, k2, k3]; rfl) ?_
    refine RegO.step rfl (OpStep.callA rfl (by simp (maxSteps := 200000) (disch := first | omega | (simp; done) | fail) [wrapI, leT, leF, ltT, ltF, eqF, nleT, nleF, nltT, nltF, g0, k1, k2, k3]; exact ⟨rfl, rfl⟩) (by simp (maxSteps := 200000) (disch := first | omega | (simp; done) | fail) [wrapI, leT, leF, ltT, ltF, eqF, nleT, nleF, nltT, nltF, g0, k1, k2, k3]; rfl) (by exact specAskLine_spec a.Ask hsz0 ho hl) (by simp) (by simp (maxSteps := 200000) (disch := first | omega | (simp; done) | fail) [wrapI, leT, leF, ltT, ltF, eqF, nleT, nleF, nltT, nltF, g0, k1, k2, k3]; rfl)) ?_
    refine RegO.opN 1 (by simp (maxSteps := 200000) (disch := first | omega | (simp; done) | fail) [wrapI, leT, leF, ltT, ltF, eqF, nleT, nleF, nltT, nltF, g0, k1, k2, k3]; rfl) ?_
    refine RegO.nil ?_
    refine DW.seq ?_
    refine DW.seq ?_
    refine DW.reg (by simp (maxSteps := 200000) (disch := first | omega | (simp; done) | fail) [wrapI, leT, leF, ltT, ltF, eqF, nleT, nleF, nltT, nltF, g0, k1, k2, k3]; rfl) ?_
    refine DW.condB (by simp (maxSteps := 200000) (disch := first | omega | (simp; done) | fail) [wrapI, leT, leF, ltT, ltF, eqF, nleT, nleF, nltT, nltF, g0, k1, k2, k3]; exact rfl) (fun hc2 => ?_) (fun hc2 => ?_)
    · have hn : askLine a.Ask = ByteArray.empty := ba_nil.1 (by simpa using hc2)
      have hres : actLine a = ByteArray.empty := by simp [actLine, hk, hn]
      refine DW.seq ?_
      refine DW.reg (by simp (maxSteps := 200000) (disch := first | omega | (simp; done) | fail) [wrapI, leT, leF, ltT, ltF, eqF, nleT, nleF, nltT, nltF, g0, k1, k2, k3]; rfl) ?_
      refine DW.ret ?_
      rw [hres]
      simp [Tryd.results15]
    · have hn : ¬ askLine a.Ask = ByteArray.empty := fun e => (show ¬ (askLine a.Ask).toList = [] by simpa using hc2) (ba_nil.2 e)
      refine DW.skip ?_
      refine DW.regs ?_
      refine RegO.opN 2 (by simp (maxSteps := 200000) (disch := first | omega | (simp; done) | fail) [wrapI, leT, leF, ltT, ltF, eqF, nleT, nleF, nltT, nltF, g0, k1, k2, k3]; rfl) ?_
      refine RegO.step rfl (OpStep.callA rfl (by simp (maxSteps := 200000) (disch := first | omega | (simp; done) | fail) [wrapI, leT, leF, ltT, ltF, eqF, nleT, nleF, nltT, nltF, g0, k1, k2, k3]; exact ⟨rfl, rfl⟩) (by simp (maxSteps := 200000) (disch := first | omega | (simp; done) | fail) [wrapI, leT, leF, ltT, ltF, eqF, nleT, nleF, nltT, nltF, g0, k1, k2, k3]; rfl) (by exact specDecimal_spec a.Tenant ht.1 ht.2) (by simp) (by simp (maxSteps := 200000) (disch := first | omega | (simp; done) | fail) [wrapI, leT, leF, ltT, ltF, eqF, nleT, nleF, nltT, nltF, g0, k1, k2, k3]; rfl)) ?_
      refine RegO.opN 5 (by simp (maxSteps := 200000) (disch := first | omega | (simp; done) | fail) [wrapI, leT, leF, ltT, ltF, eqF, nleT, nleF, nltT, nltF, g0, k1, k2, k3]; rfl) ?_
      refine RegO.nil ?_
      refine DW.seq ?_
      refine DW.seq ?_
      rcases Bool.eq_false_or_eq_true (eqAct ⟨a.Kind, a.Tenant, a.Ask, 0⟩ a) with hq | hq
      · have he := hq
        rw [told1] at he
        replace he : a.Picks = 0 := by have := he; simp at this; omega
        have hL := (show actLine a = ⟨#[97, 115, 107, 32]⟩ ++ (decB a.Tenant ++ (⟨#[32]⟩ ++ askLine a.Ask)) from by simp [actLine, g0, hk, hn, he])
        refine DW.regs ?_
        refine RegO.opN 2 (by simp (maxSteps := 200000) (disch := first | omega | (simp; done) | fail) [wrapI, leT, leF, ltT, ltF, eqF, nleT, nleF, nltT, nltF, g0, k1, k2, k3, hq]; rfl) ?_
        refine RegO.step rfl (OpStep.neS (actV ⟨a.Kind, a.Tenant, a.Ask, 0⟩) (actV a) rfl rfl (by decide) (by simp) (by simp) (by kernel_rfl) (fun w => eqAct_run _ _ 9997 w)) ?_
        refine RegO.opN 5 (by simp (maxSteps := 200000) (disch := first | omega | (simp; done) | fail) [wrapI, leT, leF, ltT, ltF, eqF, nleT, nleF, nltT, nltF, g0, k1, k2, k3, hq]; rfl) ?_
        refine RegO.nil ?_
        refine DW.condF (by simp (maxSteps := 200000) (disch := first | omega | (simp; done) | fail) [wrapI, leT, leF, ltT, ltF, eqF, nleT, nleF, nltT, nltF, g0, k1, k2, k3, hq]) ?_
        refine DW.skip ?_
        refine DW.seq ?_
        refine DW.reg (by simp (maxSteps := 200000) (disch := first | omega | (simp; done) | fail) [wrapI, leT, leF, ltT, ltF, eqF, nleT, nleF, nltT, nltF, g0, k1, k2, k3, hq]; rfl) ?_
        refine DW.ret ?_
        rw [hL]
        simp [Tryd.results15, ByteArray.append_assoc]
      · have hres : actLine a = ByteArray.empty := by
          rw [told1] at hq
          have hp0 : ¬ a.Picks = 0 := fun e => by rw [e] at hq; cases hq
          simp [actLine, hk, hp0]
        refine DW.regs ?_
        refine RegO.opN 2 (by simp (maxSteps := 200000) (disch := first | omega | (simp; done) | fail) [wrapI, leT, leF, ltT, ltF, eqF, nleT, nleF, nltT, nltF, g0, k1, k2, k3, hq]; rfl) ?_
        refine RegO.step rfl (OpStep.neS (actV ⟨a.Kind, a.Tenant, a.Ask, 0⟩) (actV a) rfl rfl (by decide) (by simp) (by simp) (by kernel_rfl) (fun w => eqAct_run _ _ 9997 w)) ?_
        refine RegO.opN 5 (by simp (maxSteps := 200000) (disch := first | omega | (simp; done) | fail) [wrapI, leT, leF, ltT, ltF, eqF, nleT, nleF, nltT, nltF, g0, k1, k2, k3, hq]; rfl) ?_
        refine RegO.nil ?_
        refine DW.condT (by simp (maxSteps := 200000) (disch := first | omega | (simp; done) | fail) [wrapI, leT, leF, ltT, ltF, eqF, nleT, nleF, nltT, nltF, g0, k1, k2, k3, hq]) ?_
        refine DW.seq ?_
        refine DW.reg (by simp (maxSteps := 200000) (disch := first | omega | (simp; done) | fail) [wrapI, leT, leF, ltT, ltF, eqF, nleT, nleF, nltT, nltF, g0, k1, k2, k3, hq]; rfl) ?_
        refine DW.ret ?_
        rw [hres]
        simp [Tryd.results15]
  · have k1 : (a.Kind == 1) = false := by simp [hk]
    have k2 : (a.Kind == 2) = true := by simp [hk]
    have k3 : (a.Kind == 3) = false := by simp [hk]
    refine DW.regs ?_
    refine RegO.opN 1 (by simp (maxSteps := 200000) (disch := first | omega | (simp; done) | fail) [wrapI, leT, leF, ltT, ltF, eqF, nleT, nleF, nltT, nltF, g0, k1, k2, k3]; rfl) ?_
    refine RegO.step rfl (OpStep.callA rfl (by simp (maxSteps := 200000) (disch := first | omega | (simp; done) | fail) [wrapI, leT, leF, ltT, ltF, eqF, nleT, nleF, nltT, nltF, g0, k1, k2, k3]; exact ⟨rfl, rfl⟩) (by simp (maxSteps := 200000) (disch := first | omega | (simp; done) | fail) [wrapI, leT, leF, ltT, ltF, eqF, nleT, nleF, nltT, nltF, g0, k1, k2, k3]; rfl) (by exact specActOk_spec a) (by simp) (by simp (maxSteps := 200000) (disch := first | omega | (simp; done) | fail) [wrapI, leT, leF, ltT, ltF, eqF, nleT, nleF, nltT, nltF, g0, k1, k2, k3]; rfl)) ?_
    refine RegO.opN 1 (by simp (maxSteps := 200000) (disch := first | omega | (simp; done) | fail) [wrapI, leT, leF, ltT, ltF, eqF, nleT, nleF, nltT, nltF, g0, k1, k2, k3]; rfl) ?_
    refine RegO.nil ?_
    refine DW.condF (by simp (maxSteps := 200000) (disch := first | omega | (simp; done) | fail) [wrapI, leT, leF, ltT, ltF, eqF, nleT, nleF, nltT, nltF, g0, k1, k2, k3]) ?_
    refine DW.skip ?_
    refine DW.seq ?_
    refine DW.reg (by simp [g0, k1, k2, k3]; rfl) ?_
    refine DW.norm [(1, _), (3, _)] [(1, _), (3, _)] [] (by simp [g0, k1, k2, k3]; exact ⟨rfl, rfl⟩) (by simp [g0, k1, k2, k3]; exact ⟨rfl, rfl⟩) (by simp [g0, k1, k2, k3]) (by rfl) ?_
    refine DW.seq ?_
    refine DW.reg (by simp (maxSteps := 200000) (disch := first | omega | (simp; done) | fail) [wrapI, leT, leF, ltT, ltF, eqF, nleT, nleF, nltT, nltF, g0, k1, k2, k3]; rfl) ?_
    refine DW.seq ?_
    refine DW.seq ?_
    refine DW.reg (by simp (maxSteps := 200000) (disch := first | omega | (simp; done) | fail) [wrapI, leT, leF, ltT, ltF, eqF, nleT, nleF, nltT, nltF, g0, k1, k2, k3]; rfl) ?_
    refine DW.block ?_
    refine DW.seq ?_
    refine DW.reg (by simp (maxSteps := 200000) (disch := first | omega | (simp; done) | fail) [wrapI, leT, leF, ltT, ltF, eqF, nleT, nleF, nltT, nltF, g0, k1, k2, k3]; rfl) ?_
    refine DW.condF (by simp (maxSteps := 200000) (disch := first | omega | (simp; done) | fail) [wrapI, leT, leF, ltT, ltF, eqF, nleT, nleF, nltT, nltF, g0, k1, k2, k3]) ?_
    refine DW.seq ?_
    refine DW.reg (by simp (maxSteps := 200000) (disch := first | omega | (simp; done) | fail) [wrapI, leT, leF, ltT, ltF, eqF, nleT, nleF, nltT, nltF, g0, k1, k2, k3]; rfl) ?_
    refine DW.condT (by simp (maxSteps := 200000) (disch := first | omega | (simp; done) | fail) [wrapI, leT, leF, ltT, ltF, eqF, nleT, nleF, nltT, nltF, g0, k1, k2, k3]) ?_
    refine DW.regs ?_
    refine RegO.opN 2 (by simp (maxSteps := 200000) (disch := first | omega | (simp; done) | fail) [wrapI, leT, leF, ltT, ltF, eqF, nleT, nleF, nltT, nltF, g0, k1, k2, k3]; rfl) ?_
    refine RegO.step rfl (OpStep.callA rfl (by simp (maxSteps := 200000) (disch := first | omega | (simp; done) | fail) [wrapI, leT, leF, ltT, ltF, eqF, nleT, nleF, nltT, nltF, g0, k1, k2, k3]; exact ⟨rfl, rfl⟩) (by simp (maxSteps := 200000) (disch := first | omega | (simp; done) | fail) [wrapI, leT, leF, ltT, ltF, eqF, nleT, nleF, nltT, nltF, g0, k1, k2, k3]; rfl) (by exact specDecimal_spec a.Tenant ht.1 ht.2) (by simp) (by simp (maxSteps := 200000) (disch := first | omega | (simp; done) | fail) [wrapI, leT, leF, ltT, ltF, eqF, nleT, nleF, nltT, nltF, g0, k1, k2, k3]; rfl)) ?_
    refine RegO.opN 2 (by simp (maxSteps := 200000) (disch := first | omega | (simp; done) | fail) [wrapI, leT, leF, ltT, ltF, eqF, nleT, nleF, nltT, nltF, g0, k1, k2, k3]; rfl) ?_
    refine RegO.nil ?_
    refine DW.seq ?_
    refine DW.seq ?_
    rcases Bool.eq_false_or_eq_true (eqAct ⟨a.Kind, a.Tenant, askZ, 0⟩ a) with hq | hq
    · have he := hq
      rw [told2 a hk] at he
      refine DW.regs ?_
      refine RegO.opN 2 (by simp (maxSteps := 200000) (disch := first | omega | (simp; done) | fail) [wrapI, leT, leF, ltT, ltF, eqF, nleT, nleF, nltT, nltF, g0, k1, k2, k3, hq]; rfl) ?_
      refine RegO.step rfl (OpStep.neS (actV ⟨a.Kind, a.Tenant, askZ, 0⟩) (actV a) rfl rfl (by decide) (by simp) (by simp) (by kernel_rfl) (fun w => eqAct_run _ _ 9997 w)) ?_
      refine RegO.opN 5 (by simp (maxSteps := 200000) (disch := first | omega | (simp; done) | fail) [wrapI, leT, leF, ltT, ltF, eqF, nleT, nleF, nltT, nltF, g0, k1, k2, k3, hq]; rfl) ?_
      refine RegO.nil ?_
      refine DW.condB (by simp (maxSteps := 200000) (disch := first | omega | (simp; done) | fail) [wrapI, leT, leF, ltT, ltF, eqF, nleT, nleF, nltT, nltF, g0, k1, k2, k3, hq]; exact rfl) (fun hc3 => ?_) (fun hc3 => ?_)
      · have hpm : ¬ a.Picks ≤ 1000000000 := by
          have : 1000000000 < a.Picks := by simpa using hc3
          omega
        have hres : actLine a = ByteArray.empty := by simp [actLine, hpm]
        refine DW.seq ?_
        refine DW.reg (by simp (maxSteps := 200000) (disch := first | omega | (simp; done) | fail) [wrapI, leT, leF, ltT, ltF, eqF, nleT, nleF, nltT, nltF, g0, k1, k2, k3, hq]; rfl) ?_
        refine DW.ret ?_
        rw [hres]
        simp [Tryd.results15]
      · have hpm : a.Picks ≤ 1000000000 := by
          have : ¬ 1000000000 < a.Picks := by simpa using hc3
          omega
        have hL := (show actLine a = ⟨#[115, 116, 101, 112, 32]⟩ ++ decB a.Tenant from by simp [actLine, g0, hk, he, hpm])
        refine DW.skip ?_
        refine DW.seq ?_
        refine DW.reg (by simp (maxSteps := 200000) (disch := first | omega | (simp; done) | fail) [wrapI, leT, leF, ltT, ltF, eqF, nleT, nleF, nltT, nltF, g0, k1, k2, k3, hq]; rfl) ?_
        refine DW.ret ?_
        rw [hL]
        simp [Tryd.results15, ByteArray.append_assoc]
    · have hres : actLine a = ByteArray.empty := by
        rw [told2 a hk] at hq
        simp [actLine, hk, hq]
      refine DW.regs ?_
      refine RegO.opN 2 (by simp (maxSteps := 200000) (disch := first | omega | (simp; done) | fail) [wrapI, leT, leF, ltT, ltF, eqF, nleT, nleF, nltT, nltF, g0, k1, k2, k3, hq]; rfl) ?_
      refine RegO.step rfl (OpStep.neS (actV ⟨a.Kind, a.Tenant, askZ, 0⟩) (actV a) rfl rfl (by decide) (by simp) (by simp) (by kernel_rfl) (fun w => eqAct_run _ _ 9997 w)) ?_
      refine RegO.opN 5 (by simp (maxSteps := 200000) (disch := first | omega | (simp; done) | fail) [wrapI, leT, leF, ltT, ltF, eqF, nleT, nleF, nltT, nltF, g0, k1, k2, k3, hq]; rfl) ?_
      refine RegO.nil ?_
      refine DW.condT (by simp (maxSteps := 200000) (disch := first | omega | (simp; done) | fail) [wrapI, leT, leF, ltT, ltF, eqF, nleT, nleF, nltT, nltF, g0, k1, k2, k3, hq]) ?_
      refine DW.seq ?_
      refine DW.reg (by simp (maxSteps := 200000) (disch := first | omega | (simp; done) | fail) [wrapI, leT, leF, ltT, ltF, eqF, nleT, nleF, nltT, nltF, g0, k1, k2, k3, hq]; rfl) ?_
      refine DW.ret ?_
      rw [hres]
      simp [Tryd.results15]
  · have k1 : (a.Kind == 1) = false := by simp [hk]
    have k2 : (a.Kind == 2) = false := by simp [hk]
    have k3 : (a.Kind == 3) = true := by simp [hk]
    refine DW.regs ?_
    refine RegO.opN 1 (by simp (maxSteps := 200000) (disch := first | omega | (simp; done) | fail) [wrapI, leT, leF, ltT, ltF, eqF, nleT, nleF, nltT, nltF, g0, k1, k2, k3]; rfl) ?_
    refine RegO.step rfl (OpStep.callA rfl (by simp (maxSteps := 200000) (disch := first | omega | (simp; done) | fail) [wrapI, leT, leF, ltT, ltF, eqF, nleT, nleF, nltT, nltF, g0, k1, k2, k3]; exact ⟨rfl, rfl⟩) (by simp (maxSteps := 200000) (disch := first | omega | (simp; done) | fail) [wrapI, leT, leF, ltT, ltF, eqF, nleT, nleF, nltT, nltF, g0, k1, k2, k3]; rfl) (by exact specActOk_spec a) (by simp) (by simp (maxSteps := 200000) (disch := first | omega | (simp; done) | fail) [wrapI, leT, leF, ltT, ltF, eqF, nleT, nleF, nltT, nltF, g0, k1, k2, k3]; rfl)) ?_
    refine RegO.opN 1 (by simp (maxSteps := 200000) (disch := first | omega | (simp; done) | fail) [wrapI, leT, leF, ltT, ltF, eqF, nleT, nleF, nltT, nltF, g0, k1, k2, k3]; rfl) ?_
    refine RegO.nil ?_
    refine DW.condF (by simp (maxSteps := 200000) (disch := first | omega | (simp; done) | fail) [wrapI, leT, leF, ltT, ltF, eqF, nleT, nleF, nltT, nltF, g0, k1, k2, k3]) ?_
    refine DW.skip ?_
    refine DW.seq ?_
    refine DW.reg (by simp [g0, k1, k2, k3]; rfl) ?_
    refine DW.norm [(1, _), (3, _)] [(1, _), (3, _)] [] (by simp [g0, k1, k2, k3]; exact ⟨rfl, rfl⟩) (by simp [g0, k1, k2, k3]; exact ⟨rfl, rfl⟩) (by simp [g0, k1, k2, k3]) (by rfl) ?_
    refine DW.seq ?_
    refine DW.reg (by simp (maxSteps := 200000) (disch := first | omega | (simp; done) | fail) [wrapI, leT, leF, ltT, ltF, eqF, nleT, nleF, nltT, nltF, g0, k1, k2, k3]; rfl) ?_
    refine DW.seq ?_
    refine DW.seq ?_
    refine DW.reg (by simp (maxSteps := 200000) (disch := first | omega | (simp; done) | fail) [wrapI, leT, leF, ltT, ltF, eqF, nleT, nleF, nltT, nltF, g0, k1, k2, k3]; rfl) ?_
    refine DW.block ?_
    refine DW.seq ?_
    refine DW.reg (by simp (maxSteps := 200000) (disch := first | omega | (simp; done) | fail) [wrapI, leT, leF, ltT, ltF, eqF, nleT, nleF, nltT, nltF, g0, k1, k2, k3]; rfl) ?_
    refine DW.condF (by simp (maxSteps := 200000) (disch := first | omega | (simp; done) | fail) [wrapI, leT, leF, ltT, ltF, eqF, nleT, nleF, nltT, nltF, g0, k1, k2, k3]) ?_
    refine DW.seq ?_
    refine DW.reg (by simp (maxSteps := 200000) (disch := first | omega | (simp; done) | fail) [wrapI, leT, leF, ltT, ltF, eqF, nleT, nleF, nltT, nltF, g0, k1, k2, k3]; rfl) ?_
    refine DW.condF (by simp (maxSteps := 200000) (disch := first | omega | (simp; done) | fail) [wrapI, leT, leF, ltT, ltF, eqF, nleT, nleF, nltT, nltF, g0, k1, k2, k3]) ?_
    refine DW.seq ?_
    refine DW.reg (by simp [g0, k1, k2, k3]; rfl) ?_
    refine DW.norm [(1, _), (3, _)] [(1, _), (3, _)] [] (by simp [g0, k1, k2, k3]; exact ⟨rfl, rfl⟩) (by simp [g0, k1, k2, k3]; exact ⟨rfl, rfl⟩) (by simp [g0, k1, k2, k3]) (by rfl) ?_
    refine DW.regs ?_
    refine RegO.opN 2 (by simp (maxSteps := 200000) (disch := first | omega | (simp; done) | fail) [wrapI, leT, leF, ltT, ltF, eqF, nleT, nleF, nltT, nltF, g0, k1, k2, k3]; rfl) ?_
    refine RegO.step rfl (OpStep.callA rfl (by simp (maxSteps := 200000) (disch := first | omega | (simp; done) | fail) [wrapI, leT, leF, ltT, ltF, eqF, nleT, nleF, nltT, nltF, g0, k1, k2, k3]; exact ⟨rfl, rfl⟩) (by simp (maxSteps := 200000) (disch := first | omega | (simp; done) | fail) [wrapI, leT, leF, ltT, ltF, eqF, nleT, nleF, nltT, nltF, g0, k1, k2, k3]; rfl) (by exact specDecimal_spec a.Picks hp.1 hp.2) (by simp) (by simp (maxSteps := 200000) (disch := first | omega | (simp; done) | fail) [wrapI, leT, leF, ltT, ltF, eqF, nleT, nleF, nltT, nltF, g0, k1, k2, k3]; rfl)) ?_
    refine RegO.opN 2 (by simp (maxSteps := 200000) (disch := first | omega | (simp; done) | fail) [wrapI, leT, leF, ltT, ltF, eqF, nleT, nleF, nltT, nltF, g0, k1, k2, k3]; rfl) ?_
    refine RegO.nil ?_
    refine DW.seq ?_
    refine DW.seq ?_
    rcases Bool.eq_false_or_eq_true (eqAct ⟨a.Kind, 0, askZ, a.Picks⟩ a) with hq | hq
    · have he := hq
      rw [told3 a hk] at he
      refine DW.regs ?_
      refine RegO.opN 2 (by simp (maxSteps := 200000) (disch := first | omega | (simp; done) | fail) [wrapI, leT, leF, ltT, ltF, eqF, nleT, nleF, nltT, nltF, g0, k1, k2, k3, hq]; rfl) ?_
      refine RegO.step rfl (OpStep.neS (actV ⟨a.Kind, 0, askZ, a.Picks⟩) (actV a) rfl rfl (by decide) (by simp) (by simp) (by kernel_rfl) (fun w => eqAct_run _ _ 9997 w)) ?_
      refine RegO.opN 5 (by simp (maxSteps := 200000) (disch := first | omega | (simp; done) | fail) [wrapI, leT, leF, ltT, ltF, eqF, nleT, nleF, nltT, nltF, g0, k1, k2, k3, hq]; rfl) ?_
      refine RegO.nil ?_
      refine DW.condB (by simp (maxSteps := 200000) (disch := first | omega | (simp; done) | fail) [wrapI, leT, leF, ltT, ltF, eqF, nleT, nleF, nltT, nltF, g0, k1, k2, k3, hq]; exact rfl) (fun hc3 => ?_) (fun hc3 => ?_)
      · have hpm : ¬ a.Picks ≤ 1000000000 := by
          have : 1000000000 < a.Picks := by simpa using hc3
          omega
        have hres : actLine a = ByteArray.empty := by simp [actLine, hpm]
        refine DW.seq ?_
        refine DW.reg (by simp (maxSteps := 200000) (disch := first | omega | (simp; done) | fail) [wrapI, leT, leF, ltT, ltF, eqF, nleT, nleF, nltT, nltF, g0, k1, k2, k3, hq]; rfl) ?_
        refine DW.ret ?_
        rw [hres]
        simp [Tryd.results15]
      · have hpm : a.Picks ≤ 1000000000 := by
          have : ¬ 1000000000 < a.Picks := by simpa using hc3
          omega
        have hL := (show actLine a = ⟨#[102, 97, 108, 108, 32]⟩ ++ decB a.Picks from by simp [actLine, g0, hk, he, hpm])
        refine DW.skip ?_
        refine DW.seq ?_
        refine DW.reg (by simp (maxSteps := 200000) (disch := first | omega | (simp; done) | fail) [wrapI, leT, leF, ltT, ltF, eqF, nleT, nleF, nltT, nltF, g0, k1, k2, k3, hq]; rfl) ?_
        refine DW.ret ?_
        rw [hL]
        simp [Tryd.results15, ByteArray.append_assoc]
    · have hres : actLine a = ByteArray.empty := by
        rw [told3 a hk] at hq
        simp [actLine, hk, hq]
      refine DW.regs ?_
      refine RegO.opN 2 (by simp (maxSteps := 200000) (disch := first | omega | (simp; done) | fail) [wrapI, leT, leF, ltT, ltF, eqF, nleT, nleF, nltT, nltF, g0, k1, k2, k3, hq]; rfl) ?_
      refine RegO.step rfl (OpStep.neS (actV ⟨a.Kind, 0, askZ, a.Picks⟩) (actV a) rfl rfl (by decide) (by simp) (by simp) (by kernel_rfl) (fun w => eqAct_run _ _ 9997 w)) ?_
      refine RegO.opN 5 (by simp (maxSteps := 200000) (disch := first | omega | (simp; done) | fail) [wrapI, leT, leF, ltT, ltF, eqF, nleT, nleF, nltT, nltF, g0, k1, k2, k3, hq]; rfl) ?_
      refine RegO.nil ?_
      refine DW.condT (by simp (maxSteps := 200000) (disch := first | omega | (simp; done) | fail) [wrapI, leT, leF, ltT, ltF, eqF, nleT, nleF, nltT, nltF, g0, k1, k2, k3, hq]) ?_
      refine DW.seq ?_
      refine DW.reg (by simp (maxSteps := 200000) (disch := first | omega | (simp; done) | fail) [wrapI, leT, leF, ltT, ltF, eqF, nleT, nleF, nltT, nltF, g0, k1, k2, k3, hq]; rfl) ?_
      refine DW.ret ?_
      rw [hres]
      simp [Tryd.results15]
theorem implActLine_spec (a : Act) (hz0 : Row.sz a ≤ 2 ^ 36) (ho : IntOk a.Ask.Off) (hl : IntOk a.Ask.Len) (ht : IntOk a.Tenant) (hp : IntOk a.Picks) : Spec Tryd.prog 17 [raAct a] [none] [ds (actLine a)] [raAct a] := by
  refine Spec.intro Tryd.func17 rfl rfl Tryd.ntmps17 rfl (by simp) ?_
  have hz := Act_sz a
  have hsz0 : Row.sz a.Ask ≤ 2 ^ 36 := by omega
  have hdt := decB_size a.Tenant ht.1 ht.2
  have hdp := decB_size a.Picks hp.1 hp.2
  have hls := askLine_size a.Ask
  refine DW.seq ?_
  refine DW.reg (by simp (maxSteps := 200000) (disch := first | omega | (simp; done) | fail) [wrapI, leT, leF, ltT, ltF, eqF, nleT, nleF, nltT, nltF]; rfl) ?_
  refine DW.seq ?_
  refine DW.seq ?_
  have hsp : actOkB a = false ∨ (actOkB a = true ∧ a.Kind = 1) ∨ (actOkB a = true ∧ a.Kind = 2) ∨ (actOkB a = true ∧ a.Kind = 3) := by
    cases h : actOkB a
    · exact .inl rfl
    · simp only [actOkB, Bool.and_eq_true, inB_iff] at h
      have h1 := h.1
      simp only [Bool.true_eq_false, true_and, false_or]; omega
  rcases hsp with g0 | ⟨g0, hk⟩ | ⟨g0, hk⟩ | ⟨g0, hk⟩
  · have hres : actLine a = ByteArray.empty := by simp [actLine, g0]
    refine DW.regs ?_
    refine RegO.opN 1 (by simp (maxSteps := 200000) (disch := first | omega | (simp; done) | fail) [wrapI, leT, leF, ltT, ltF, eqF, nleT, nleF, nltT, nltF, g0]; rfl) ?_
    refine RegO.step rfl (OpStep.callA rfl (by simp (maxSteps := 200000) (disch := first | omega | (simp; done) | fail) [wrapI, leT, leF, ltT, ltF, eqF, nleT, nleF, nltT, nltF, g0]; exact ⟨rfl, rfl⟩) (by simp (maxSteps := 200000) (disch := first | omega | (simp; done) | fail) [wrapI, leT, leF, ltT, ltF, eqF, nleT, nleF, nltT, nltF, g0]; rfl) (by exact implActOk_spec a) (by simp) (by simp (maxSteps := 200000) (disch := first | omega | (simp; done) | fail) [wrapI, leT, leF, ltT, ltF, eqF, nleT, nleF, nltT, nltF, g0]; rfl)) ?_
    refine RegO.opN 6 (by simp (maxSteps := 200000) (disch := first | omega | (simp; done) | fail) [wrapI, leT, leF, ltT, ltF, eqF, nleT, nleF, nltT, nltF, g0]; rfl) ?_
    refine RegO.nil ?_
    refine DW.condT (by simp (maxSteps := 200000) (disch := first | omega | (simp; done) | fail) [wrapI, leT, leF, ltT, ltF, eqF, nleT, nleF, nltT, nltF, g0]) ?_
    refine DW.seq ?_
    refine DW.reg (by simp (maxSteps := 200000) (disch := first | omega | (simp; done) | fail) [wrapI, leT, leF, ltT, ltF, eqF, nleT, nleF, nltT, nltF, g0]; rfl) ?_
    refine DW.ret ?_
    rw [hres]
    simp [Tryd.results17]
  · have k1 : (a.Kind == 1) = true := by simp [hk]
    have k2 : (a.Kind == 2) = false := by simp [hk]
    have k3 : (a.Kind == 3) = false := by simp [hk]
    refine DW.regs ?_
    refine RegO.opN 1 (by simp (maxSteps := 200000) (disch := first | omega | (simp; done) | fail) [wrapI, leT, leF, ltT, ltF, eqF, nleT, nleF, nltT, nltF, g0, k1, k2, k3]; rfl) ?_
    refine RegO.step rfl (OpStep.callA rfl (by simp (maxSteps := 200000) (disch := first | omega | (simp; done) | fail) [wrapI, leT, leF, ltT, ltF, eqF, nleT, nleF, nltT, nltF, g0, k1, k2, k3]; exact ⟨rfl, rfl⟩) (by simp (maxSteps := 200000) (disch := first | omega | (simp; done) | fail) [wrapI, leT, leF, ltT, ltF, eqF, nleT, nleF, nltT, nltF, g0, k1, k2, k3]; rfl) (by exact implActOk_spec a) (by simp) (by simp (maxSteps := 200000) (disch := first | omega | (simp; done) | fail) [wrapI, leT, leF, ltT, ltF, eqF, nleT, nleF, nltT, nltF, g0, k1, k2, k3]; rfl)) ?_
    refine RegO.opN 6 (by simp (maxSteps := 200000) (disch := first | omega | (simp; done) | fail) [wrapI, leT, leF, ltT, ltF, eqF, nleT, nleF, nltT, nltF, g0, k1, k2, k3]; rfl) ?_
    refine RegO.nil ?_
    refine DW.condB (by simp (maxSteps := 200000) (disch := first | omega | (simp; done) | fail) [wrapI, leT, leF, ltT, ltF, eqF, nleT, nleF, nltT, nltF, g0, k1, k2, k3]; exact rfl) (fun hc0 => ?_) (fun hc0 => ?_)
    · have hpm : ¬ a.Picks ≤ 1000000000 := by
        have : 1000000000 < a.Picks := by simpa using hc0
        omega
      have hres : actLine a = ByteArray.empty := by simp [actLine, hpm]
      refine DW.seq ?_
      refine DW.reg (by simp (maxSteps := 200000) (disch := first | omega | (simp; done) | fail) [wrapI, leT, leF, ltT, ltF, eqF, nleT, nleF, nltT, nltF, g0, k1, k2, k3]; rfl) ?_
      refine DW.ret ?_
      rw [hres]
      simp [Tryd.results17]
    · have hpm : a.Picks ≤ 1000000000 := by
        have : ¬ 1000000000 < a.Picks := by simpa using hc0
        omega
      refine DW.skip ?_
      refine DW.seq ?_
      refine DW.block ?_
      refine DW.seq ?_
      refine DW.reg (by simp (maxSteps := 200000) (disch := first | omega | (simp; done) | fail) [wrapI, leT, leF, ltT, ltF, eqF, nleT, nleF, nltT, nltF, g0, k1, k2, k3]; rfl) ?_
      refine DW.condB (by simp (maxSteps := 200000) (disch := first | omega | (simp; done) | fail) [wrapI, leT, leF, ltT, ltF, eqF, nleT, nleF, nltT, nltF, g0, k1, k2, k3]; exact rfl) (fun hc1 => ?_) (fun hc1 => ?_)
      · have he : a.Picks = 0 := by simpa using hc1
        refine DW.seq ?_
        refine DW.regs ?_
        refine RegO.opN 2 (by simp (maxSteps := 200000) (disch := first | omega | (simp; done) | fail) [wrapI, leT, leF, ltT, ltF, eqF, nleT, nleF, nltT, nltF, g0, k1, k2, k3]; rfl) ?_
        refine RegO.step rfl (OpStep.callA rfl (by simp (maxSteps := 200000) (disch := first | omega | (simp; done) | fail) [wrapI, leT, leF, ltT, ltF, eqF, nleT, nleF, nltT, nltF, g0, k1, k2, k3]; exact ⟨rfl, rfl⟩) (by simp (maxSteps := 200000) (disch := first | omega | (simp; done) | fail) [wrapI, leT, leF, ltT, ltF, eqF, nleT, nleF, nltT, nltF, g0, k1, k2, k3]; rfl) (by exact implAskLine_spec a.Ask hsz0 ho hl) (by simp) (by simp (maxSteps := 200000) (disch := first | omega | (simp; done) | fail) [wrapI, leT, leF, ltT, ltF, eqF, nleT, nleF, nltT, nltF, g0, k1, k2, k3]; rfl)) ?_
        refine RegO.opN 1 (by simp (maxSteps := 200000) (disch := first | omega | (simp; done) | fail) [wrapI, leT, leF, ltT, ltF, eqF, nleT, nleF, nltT, nltF, g0, k1, k2, k3]; rfl) ?_
        refine RegO.nil ?_
        refine DW.seq ?_
        refine DW.reg (by simp (maxSteps := 200000) (disch := first | omega | (simp; done) | fail) [wrapI, leT, leF, ltT, ltF, eqF, nleT, nleF, nltT, nltF, g0, k1, k2, k3]; rfl) ?_
        refine DW.condB (by simp (maxSteps := 200000) (disch := first | omega | (simp; done) | fail) [wrapI, leT, leF, ltT, ltF, eqF, nleT, nleF, nltT, nltF, g0, k1, k2, k3]; exact rfl) (fun hc2 => ?_) (fun hc2 => ?_)
        · have hn : ¬ askLine a.Ask = ByteArray.empty := fun e => (show ¬ (askLine a.Ask).toList = [] by simpa using hc2) (ba_nil.2 e)
          have hL := (show actLine a = ⟨#[97, 115, 107, 32]⟩ ++ (decB a.Tenant ++ (⟨#[32]⟩ ++ askLine a.Ask)) from by simp [actLine, g0, hk, hn, he])
          refine DW.seq ?_
          refine DW.regs ?_
          refine RegO.opN 2 (by simp (maxSteps := 200000) (disch := first | omega | (simp; done) | fail) [wrapI, leT, leF, ltT, ltF, eqF, nleT, nleF, nltT, nltF, g0, k1, k2, k3]; rfl) ?_
          refine RegO.step rfl (OpStep.callA rfl (by simp (maxSteps := 200000) (disch := first | omega | (simp; done) | fail) [wrapI, leT, leF, ltT, ltF, eqF, nleT, nleF, nltT, nltF, g0, k1, k2, k3]; exact ⟨rfl, rfl⟩) (by simp (maxSteps := 200000) (disch := first | omega | (simp; done) | fail) [wrapI, leT, leF, ltT, ltF, eqF, nleT, nleF, nltT, nltF, g0, k1, k2, k3]; rfl) (by exact implDecimal_spec a.Tenant ht.1 ht.2) (by simp) (by simp (maxSteps := 200000) (disch := first | omega | (simp; done) | fail) [wrapI, leT, leF, ltT, ltF, eqF, nleT, nleF, nltT, nltF, g0, k1, k2, k3]; rfl)) ?_
          refine RegO.opN 5 (by simp (maxSteps := 200000) (disch := first | omega | (simp; done) | fail) [wrapI, leT, leF, ltT, ltF, eqF, nleT, nleF, nltT, nltF, g0, k1, k2, k3]; rfl) ?_
          refine RegO.nil ?_
          refine DW.ret ?_
          rw [hL]
          simp [Tryd.results17, ByteArray.append_assoc]
        · have hn : askLine a.Ask = ByteArray.empty := ba_nil.1 (by simpa using hc2)
          have hres : actLine a = ByteArray.empty := by simp [actLine, hk, hn]
          refine DW.skip ?_
          refine DW.seq ?_
          refine DW.reg (by simp (maxSteps := 200000) (disch := first | omega | (simp; done) | fail) [wrapI, leT, leF, ltT, ltF, eqF, nleT, nleF, nltT, nltF, g0, k1, k2, k3]; rfl) ?_
          refine DW.ret ?_
          rw [hres]
          simp [Tryd.results17]
      · have he : ¬ a.Picks = 0 := by simpa using hc1
        have hres : actLine a = ByteArray.empty := by simp [actLine, hk, he]
        refine DW.seq ?_
        refine DW.reg (by simp (maxSteps := 200000) (disch := first | omega | (simp; done) | fail) [wrapI, leT, leF, ltT, ltF, eqF, nleT, nleF, nltT, nltF, g0, k1, k2, k3]; rfl) ?_
        refine DW.condF (by simp (maxSteps := 200000) (disch := first | omega | (simp; done) | fail) [wrapI, leT, leF, ltT, ltF, eqF, nleT, nleF, nltT, nltF, g0, k1, k2, k3]) ?_
        refine DW.seq ?_
        refine DW.reg (by simp (maxSteps := 200000) (disch := first | omega | (simp; done) | fail) [wrapI, leT, leF, ltT, ltF, eqF, nleT, nleF, nltT, nltF, g0, k1, k2, k3]; rfl) ?_
        refine DW.condF (by simp (maxSteps := 200000) (disch := first | omega | (simp; done) | fail) [wrapI, leT, leF, ltT, ltF, eqF, nleT, nleF, nltT, nltF, g0, k1, k2, k3]) ?_
        refine DW.skip ?_
        refine DW.seq ?_
        refine DW.reg (by simp (maxSteps := 200000) (disch := first | omega | (simp; done) | fail) [wrapI, leT, leF, ltT, ltF, eqF, nleT, nleF, nltT, nltF, g0, k1, k2, k3]; rfl) ?_
        refine DW.ret ?_
        rw [hres]
        simp [Tryd.results17]
  · have k1 : (a.Kind == 1) = false := by simp [hk]
    have k2 : (a.Kind == 2) = true := by simp [hk]
    have k3 : (a.Kind == 3) = false := by simp [hk]
    refine DW.regs ?_
    refine RegO.opN 1 (by simp (maxSteps := 200000) (disch := first | omega | (simp; done) | fail) [wrapI, leT, leF, ltT, ltF, eqF, nleT, nleF, nltT, nltF, g0, k1, k2, k3]; rfl) ?_
    refine RegO.step rfl (OpStep.callA rfl (by simp (maxSteps := 200000) (disch := first | omega | (simp; done) | fail) [wrapI, leT, leF, ltT, ltF, eqF, nleT, nleF, nltT, nltF, g0, k1, k2, k3]; exact ⟨rfl, rfl⟩) (by simp (maxSteps := 200000) (disch := first | omega | (simp; done) | fail) [wrapI, leT, leF, ltT, ltF, eqF, nleT, nleF, nltT, nltF, g0, k1, k2, k3]; rfl) (by exact implActOk_spec a) (by simp) (by simp (maxSteps := 200000) (disch := first | omega | (simp; done) | fail) [wrapI, leT, leF, ltT, ltF, eqF, nleT, nleF, nltT, nltF, g0, k1, k2, k3]; rfl)) ?_
    refine RegO.opN 6 (by simp (maxSteps := 200000) (disch := first | omega | (simp; done) | fail) [wrapI, leT, leF, ltT, ltF, eqF, nleT, nleF, nltT, nltF, g0, k1, k2, k3]; rfl) ?_
    refine RegO.nil ?_
    refine DW.condB (by simp (maxSteps := 200000) (disch := first | omega | (simp; done) | fail) [wrapI, leT, leF, ltT, ltF, eqF, nleT, nleF, nltT, nltF, g0, k1, k2, k3]; exact rfl) (fun hc0 => ?_) (fun hc0 => ?_)
    · have hpm : ¬ a.Picks ≤ 1000000000 := by
        have : 1000000000 < a.Picks := by simpa using hc0
        omega
      have hres : actLine a = ByteArray.empty := by simp [actLine, hpm]
      refine DW.seq ?_
      refine DW.reg (by simp (maxSteps := 200000) (disch := first | omega | (simp; done) | fail) [wrapI, leT, leF, ltT, ltF, eqF, nleT, nleF, nltT, nltF, g0, k1, k2, k3]; rfl) ?_
      refine DW.ret ?_
      rw [hres]
      simp [Tryd.results17]
    · have hpm : a.Picks ≤ 1000000000 := by
        have : ¬ 1000000000 < a.Picks := by simpa using hc0
        omega
      refine DW.skip ?_
      refine DW.seq ?_
      refine DW.block ?_
      refine DW.seq ?_
      refine DW.reg (by simp (maxSteps := 200000) (disch := first | omega | (simp; done) | fail) [wrapI, leT, leF, ltT, ltF, eqF, nleT, nleF, nltT, nltF, g0, k1, k2, k3]; rfl) ?_
      refine DW.condF (by simp (maxSteps := 200000) (disch := first | omega | (simp; done) | fail) [wrapI, leT, leF, ltT, ltF, eqF, nleT, nleF, nltT, nltF, g0, k1, k2, k3]) ?_
      refine DW.seq ?_
      refine DW.regs ?_
      refine RegO.opN 8 (by simp (maxSteps := 200000) (disch := first | omega | (simp; done) | fail) [wrapI, leT, leF, ltT, ltF, eqF, nleT, nleF, nltT, nltF, g0, k1, k2, k3]; rfl) ?_
      refine RegO.stepT (by simp (maxSteps := 200000) (disch := first | omega | (simp; done) | fail) [wrapI, leT, leF, ltT, ltF, eqF, nleT, nleF, nltT, nltF, g0, k1, k2, k3]) (OpStep.eqS (actV a) (actV ⟨2, a.Tenant, askZ, 0⟩) rfl rfl (by decide) (by simp) (by simp) (by kernel_rfl) (fun w => eqAct_run _ _ 9997 w)) ?_
      refine RegO.opN 2 (by simp (maxSteps := 200000) (disch := first | omega | (simp; done) | fail) [wrapI, leT, leF, ltT, ltF, eqF, nleT, nleF, nltT, nltF, g0, k1, k2, k3]; rfl) ?_
      refine RegO.nil ?_
      refine DW.condB (by simp (maxSteps := 200000) (disch := first | omega | (simp; done) | fail) [wrapI, leT, leF, ltT, ltF, eqF, nleT, nleF, nltT, nltF, g0, k1, k2, k3]; exact rfl) (fun hc2 => ?_) (fun hc2 => ?_)
      · have hq : eqAct a ⟨2, a.Tenant, askZ, 0⟩ = true := by simpa using hc2
        have hL := (show actLine a = ⟨#[115, 116, 101, 112, 32]⟩ ++ decB a.Tenant from by simp [actLine, g0, hk, hq, hpm])
        refine DW.seq ?_
        refine DW.regs ?_
        refine RegO.opN 2 (by simp (maxSteps := 200000) (disch := first | omega | (simp; done) | fail) [wrapI, leT, leF, ltT, ltF, eqF, nleT, nleF, nltT, nltF, g0, k1, k2, k3]; rfl) ?_
        refine RegO.step rfl (OpStep.callA rfl (by simp (maxSteps := 200000) (disch := first | omega | (simp; done) | fail) [wrapI, leT, leF, ltT, ltF, eqF, nleT, nleF, nltT, nltF, g0, k1, k2, k3]; exact ⟨rfl, rfl⟩) (by simp (maxSteps := 200000) (disch := first | omega | (simp; done) | fail) [wrapI, leT, leF, ltT, ltF, eqF, nleT, nleF, nltT, nltF, g0, k1, k2, k3]; rfl) (by exact implDecimal_spec a.Tenant ht.1 ht.2) (by simp) (by simp (maxSteps := 200000) (disch := first | omega | (simp; done) | fail) [wrapI, leT, leF, ltT, ltF, eqF, nleT, nleF, nltT, nltF, g0, k1, k2, k3]; rfl)) ?_
        refine RegO.opN 2 (by simp (maxSteps := 200000) (disch := first | omega | (simp; done) | fail) [wrapI, leT, leF, ltT, ltF, eqF, nleT, nleF, nltT, nltF, g0, k1, k2, k3]; rfl) ?_
        refine RegO.nil ?_
        refine DW.ret ?_
        rw [hL]
        simp [Tryd.results17, ByteArray.append_assoc]
      · have hq : eqAct a ⟨2, a.Tenant, askZ, 0⟩ = false := by simpa using hc2
        have hres : actLine a = ByteArray.empty := by simp [actLine, hk, hq]
        refine DW.seq ?_
        refine DW.reg (by simp (maxSteps := 200000) (disch := first | omega | (simp; done) | fail) [wrapI, leT, leF, ltT, ltF, eqF, nleT, nleF, nltT, nltF, g0, k1, k2, k3]; rfl) ?_
        refine DW.condF (by simp (maxSteps := 200000) (disch := first | omega | (simp; done) | fail) [wrapI, leT, leF, ltT, ltF, eqF, nleT, nleF, nltT, nltF, g0, k1, k2, k3]) ?_
        refine DW.skip ?_
        refine DW.seq ?_
        refine DW.reg (by simp (maxSteps := 200000) (disch := first | omega | (simp; done) | fail) [wrapI, leT, leF, ltT, ltF, eqF, nleT, nleF, nltT, nltF, g0, k1, k2, k3]; rfl) ?_
        refine DW.ret ?_
        rw [hres]
        simp [Tryd.results17]
  · have k1 : (a.Kind == 1) = false := by simp [hk]
    have k2 : (a.Kind == 2) = false := by simp [hk]
    have k3 : (a.Kind == 3) = true := by simp [hk]
    refine DW.regs ?_
    refine RegO.opN 1 (by simp (maxSteps := 200000) (disch := first | omega | (simp; done) | fail) [wrapI, leT, leF, ltT, ltF, eqF, nleT, nleF, nltT, nltF, g0, k1, k2, k3]; rfl) ?_
    refine RegO.step rfl (OpStep.callA rfl (by simp (maxSteps := 200000) (disch := first | omega | (simp; done) | fail) [wrapI, leT, leF, ltT, ltF, eqF, nleT, nleF, nltT, nltF, g0, k1, k2, k3]; exact ⟨rfl, rfl⟩) (by simp (maxSteps := 200000) (disch := first | omega | (simp; done) | fail) [wrapI, leT, leF, ltT, ltF, eqF, nleT, nleF, nltT, nltF, g0, k1, k2, k3]; rfl) (by exact implActOk_spec a) (by simp) (by simp (maxSteps := 200000) (disch := first | omega | (simp; done) | fail) [wrapI, leT, leF, ltT, ltF, eqF, nleT, nleF, nltT, nltF, g0, k1, k2, k3]; rfl)) ?_
    refine RegO.opN 6 (by simp (maxSteps := 200000) (disch := first | omega | (simp; done) | fail) [wrapI, leT, leF, ltT, ltF, eqF, nleT, nleF, nltT, nltF, g0, k1, k2, k3]; rfl) ?_
    refine RegO.nil ?_
    refine DW.condB (by simp (maxSteps := 200000) (disch := first | omega | (simp; done) | fail) [wrapI, leT, leF, ltT, ltF, eqF, nleT, nleF, nltT, nltF, g0, k1, k2, k3]; exact rfl) (fun hc0 => ?_) (fun hc0 => ?_)
    · have hpm : ¬ a.Picks ≤ 1000000000 := by
        have : 1000000000 < a.Picks := by simpa using hc0
        omega
      have hres : actLine a = ByteArray.empty := by simp [actLine, hpm]
      refine DW.seq ?_
      refine DW.reg (by simp (maxSteps := 200000) (disch := first | omega | (simp; done) | fail) [wrapI, leT, leF, ltT, ltF, eqF, nleT, nleF, nltT, nltF, g0, k1, k2, k3]; rfl) ?_
      refine DW.ret ?_
      rw [hres]
      simp [Tryd.results17]
    · have hpm : a.Picks ≤ 1000000000 := by
        have : ¬ 1000000000 < a.Picks := by simpa using hc0
        omega
      refine DW.skip ?_
      refine DW.seq ?_
      refine DW.block ?_
      refine DW.seq ?_
      refine DW.reg (by simp (maxSteps := 200000) (disch := first | omega | (simp; done) | fail) [wrapI, leT, leF, ltT, ltF, eqF, nleT, nleF, nltT, nltF, g0, k1, k2, k3]; rfl) ?_
      refine DW.condF (by simp (maxSteps := 200000) (disch := first | omega | (simp; done) | fail) [wrapI, leT, leF, ltT, ltF, eqF, nleT, nleF, nltT, nltF, g0, k1, k2, k3]) ?_
      refine DW.seq ?_
      refine DW.reg (by simp (maxSteps := 200000) (disch := first | omega | (simp; done) | fail) [wrapI, leT, leF, ltT, ltF, eqF, nleT, nleF, nltT, nltF, g0, k1, k2, k3]; rfl) ?_
      refine DW.condF (by simp (maxSteps := 200000) (disch := first | omega | (simp; done) | fail) [wrapI, leT, leF, ltT, ltF, eqF, nleT, nleF, nltT, nltF, g0, k1, k2, k3]) ?_
      refine DW.seq ?_
      refine DW.regs ?_
      refine RegO.opN 8 (by simp (maxSteps := 200000) (disch := first | omega | (simp; done) | fail) [wrapI, leT, leF, ltT, ltF, eqF, nleT, nleF, nltT, nltF, g0, k1, k2, k3]; rfl) ?_
      refine RegO.stepT (by simp (maxSteps := 200000) (disch := first | omega | (simp; done) | fail) [wrapI, leT, leF, ltT, ltF, eqF, nleT, nleF, nltT, nltF, g0, k1, k2, k3]) (OpStep.eqS (actV a) (actV ⟨3, 0, askZ, a.Picks⟩) rfl rfl (by decide) (by simp) (by simp) (by kernel_rfl) (fun w => eqAct_run _ _ 9997 w)) ?_
      refine RegO.opN 2 (by simp (maxSteps := 200000) (disch := first | omega | (simp; done) | fail) [wrapI, leT, leF, ltT, ltF, eqF, nleT, nleF, nltT, nltF, g0, k1, k2, k3]; rfl) ?_
      refine RegO.nil ?_
      refine DW.condB (by simp (maxSteps := 200000) (disch := first | omega | (simp; done) | fail) [wrapI, leT, leF, ltT, ltF, eqF, nleT, nleF, nltT, nltF, g0, k1, k2, k3]; exact rfl) (fun hc3 => ?_) (fun hc3 => ?_)
      · have hq : eqAct a ⟨3, 0, askZ, a.Picks⟩ = true := by simpa using hc3
        have hL := (show actLine a = ⟨#[102, 97, 108, 108, 32]⟩ ++ decB a.Picks from by simp [actLine, g0, hk, hq, hpm])
        refine DW.seq ?_
        refine DW.regs ?_
        refine RegO.opN 2 (by simp (maxSteps := 200000) (disch := first | omega | (simp; done) | fail) [wrapI, leT, leF, ltT, ltF, eqF, nleT, nleF, nltT, nltF, g0, k1, k2, k3]; rfl) ?_
        refine RegO.step rfl (OpStep.callA rfl (by simp (maxSteps := 200000) (disch := first | omega | (simp; done) | fail) [wrapI, leT, leF, ltT, ltF, eqF, nleT, nleF, nltT, nltF, g0, k1, k2, k3]; exact ⟨rfl, rfl⟩) (by simp (maxSteps := 200000) (disch := first | omega | (simp; done) | fail) [wrapI, leT, leF, ltT, ltF, eqF, nleT, nleF, nltT, nltF, g0, k1, k2, k3]; rfl) (by exact implDecimal_spec a.Picks hp.1 hp.2) (by simp) (by simp (maxSteps := 200000) (disch := first | omega | (simp; done) | fail) [wrapI, leT, leF, ltT, ltF, eqF, nleT, nleF, nltT, nltF, g0, k1, k2, k3]; rfl)) ?_
        refine RegO.opN 2 (by simp (maxSteps := 200000) (disch := first | omega | (simp; done) | fail) [wrapI, leT, leF, ltT, ltF, eqF, nleT, nleF, nltT, nltF, g0, k1, k2, k3]; rfl) ?_
        refine RegO.nil ?_
        refine DW.ret ?_
        rw [hL]
        simp [Tryd.results17, ByteArray.append_assoc]
      · have hq : eqAct a ⟨3, 0, askZ, a.Picks⟩ = false := by simpa using hc3
        have hres : actLine a = ByteArray.empty := by simp [actLine, hk, hq]
        refine DW.skip ?_
        refine DW.seq ?_
        refine DW.reg (by simp (maxSteps := 200000) (disch := first | omega | (simp; done) | fail) [wrapI, leT, leF, ltT, ltF, eqF, nleT, nleF, nltT, nltF, g0, k1, k2, k3]; rfl) ?_
        refine DW.ret ?_
        rw [hres]
        simp [Tryd.results17]
end Go.Proofs.YtciieaidbiejmaaDoor.DM
