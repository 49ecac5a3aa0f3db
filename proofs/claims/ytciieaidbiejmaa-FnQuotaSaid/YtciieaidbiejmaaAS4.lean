import Derived.Test.YtciieaidbiejmaaAS3
namespace Go.Proofs.Ytciieaidbiejmaa.DM
set_option linter.unusedVariables false
set_option linter.unusedSimpArgs false
set_option maxRecDepth 4000
set_option maxHeartbeats 8000000
theorem isDirV_no {l : List Item} {p : ByteArray} (h : itemAt l p = -1) (hp : ¬ p = rootB) : isDirV l p = false := by
  unfold isDirV
  rw [if_neg hp]
  unfold itemAt at h
  split at h
  · omega
  · rename_i hn
    rw [List.getElem?_eq_none (by omega)]
theorem isDirV_hit {l : List Item} {p : ByteArray} {i : Nat} (hx : itemIx l p = i) (hi : i < l.length) (hp : ¬ p = rootB) : isDirV l p = l[i].Dir := by
  unfold isDirV
  rw [if_neg hp, hx, List.getElem?_eq_getElem hi]
theorem lookW_step (l : List Item) (ns : List ByteArray) (i : Nat) (h : i < ns.length) : lookW l ns (ns.length - i) i = if itemAt l (joinP (ns.take i)) < 0 then 3 else if isDirV l (joinP (ns.take i)) = false then 4 else lookW l ns (ns.length - (i + 1)) (i + 1) := by
  rw [show ns.length - i = (ns.length - (i + 1)) + 1 by omega, lookW]
theorem same_spec (l : List Item) (hl : l.length ≤ 1048576) : Spec Try.prog 17 [raV l] [some 1] (dV l) [raV l] := by
  refine Spec.intro Try.func17 rfl rfl Try.ntmps17 rfl (by simp) ?_
  have c1 : l.length * 40 ≤ 140737488355328 := by omega
  have c2 : l.length ≤ 140737488355328 := by omega
  refine DW.seq ?_
  refine DW.reg (by simp [c1, c2]; rfl) ?_
  refine DW.seq ?_
  refine DW.reg (by simp [c1, c2]; rfl) ?_
  refine DW.ret ?_
  simp [Try.results17]
theorem dirV_spec (l : List Item) (p : ByteArray) (hl : l.length < 2 ^ 40) : Spec Try.prog 22 [raV l, rs p] [none] [db (isDirV l p)] [raV l, rs p] := by
  refine Spec.intro Try.func22 rfl rfl Try.ntmps22 rfl (by simp) ?_
  refine DW.seq ?_
  refine DW.reg (by simp (maxSteps := 200000) (disch := first | omega | (simp; done) | fail) [wrapI, leT, leF, ltT, ltF, eqF, nleT, nleF, nltT, nltF]; rfl) ?_
  refine DW.seq ?_
  refine DW.seq ?_
  refine DW.reg (by simp (maxSteps := 200000) (disch := first | omega | (simp; done) | fail) [wrapI, leT, leF, ltT, ltF, eqF, nleT, nleF, nltT, nltF]; rfl) ?_
  refine DW.condB (by simp (maxSteps := 200000) (disch := first | omega | (simp; done) | fail) [wrapI, leT, leF, ltT, ltF, eqF, nleT, nleF, nltT, nltF]; exact rfl) (fun hc0 => ?_) (fun hc0 => ?_)
  · have hr : p = rootB := by simpa [rootB_iff] using hc0
    have hres : isDirV l p = true := by unfold isDirV; rw [if_pos hr]
    rw [hres]
    refine DW.seq ?_
    refine DW.reg (by simp (maxSteps := 200000) (disch := first | omega | (simp; done) | fail) [wrapI, leT, leF, ltT, ltF, eqF, nleT, nleF, nltT, nltF]; rfl) ?_
    refine DW.ret ?_
    simp [Try.results22]
  · have hr : ¬ p = rootB := by simpa [rootB_iff] using hc0
    refine DW.skip ?_
    refine DW.seq ?_
    rcases itemAt_cases l p with ⟨e, hn⟩ | ⟨i, e, hi, hp, hx⟩
    · have hres := isDirV_no e hr
      rw [hres]
      refine DW.regs ?_
      refine RegO.opN 2 (by simp (maxSteps := 200000) (disch := first | omega | (simp; done) | fail) [wrapI, leT, leF, ltT, ltF, eqF, nleT, nleF, nltT, nltF, e]; rfl) ?_
      refine RegO.step rfl (OpStep.callA rfl (by simp (maxSteps := 200000) (disch := first | omega | (simp; done) | fail) [wrapI, leT, leF, ltT, ltF, eqF, nleT, nleF, nltT, nltF, e]; exact ⟨rfl, rfl⟩) (by simp (maxSteps := 200000) (disch := first | omega | (simp; done) | fail) [wrapI, leT, leF, ltT, ltF, eqF, nleT, nleF, nltT, nltF, e]; rfl) (by exact itemAt_spec l p hl) (by simp) (by simp (maxSteps := 200000) (disch := first | omega | (simp; done) | fail) [wrapI, leT, leF, ltT, ltF, eqF, nleT, nleF, nltT, nltF, e]; rfl)) ?_
      refine RegO.opN 1 (by simp (maxSteps := 200000) (disch := first | omega | (simp; done) | fail) [wrapI, leT, leF, ltT, ltF, eqF, nleT, nleF, nltT, nltF, e]; rfl) ?_
      refine RegO.nil ?_
      refine DW.seq ?_
      refine DW.reg (by simp (maxSteps := 200000) (disch := first | omega | (simp; done) | fail) [wrapI, leT, leF, ltT, ltF, eqF, nleT, nleF, nltT, nltF, e]; rfl) ?_
      refine DW.ret ?_
      simp [Try.results22]
    · have hres := isDirV_hit hx hi hr
      rw [hres]
      have hi1 : (i : Int) < l.length := by omega
      have hd := rR_drop_Item l i hi
      generalize l[i] = c at hd ⊢
      refine DW.regs ?_
      refine RegO.opN 2 (by simp (maxSteps := 200000) (disch := first | omega | (simp; done) | fail) [wrapI, leT, leF, ltT, ltF, eqF, nleT, nleF, nltT, nltF, e, hi, hi1, hd]; rfl) ?_
      refine RegO.step rfl (OpStep.callA rfl (by simp (maxSteps := 200000) (disch := first | omega | (simp; done) | fail) [wrapI, leT, leF, ltT, ltF, eqF, nleT, nleF, nltT, nltF, e, hi, hi1, hd]; exact ⟨rfl, rfl⟩) (by simp (maxSteps := 200000) (disch := first | omega | (simp; done) | fail) [wrapI, leT, leF, ltT, ltF, eqF, nleT, nleF, nltT, nltF, e, hi, hi1, hd]; rfl) (by exact itemAt_spec l p hl) (by simp) (by simp (maxSteps := 200000) (disch := first | omega | (simp; done) | fail) [wrapI, leT, leF, ltT, ltF, eqF, nleT, nleF, nltT, nltF, e, hi, hi1, hd]; rfl)) ?_
      refine RegO.opN 1 (by simp (maxSteps := 200000) (disch := first | omega | (simp; done) | fail) [wrapI, leT, leF, ltT, ltF, eqF, nleT, nleF, nltT, nltF, e, hi, hi1, hd]; rfl) ?_
      refine RegO.nil ?_
      refine DW.seq ?_
      refine DW.reg (by simp (maxSteps := 200000) (disch := first | omega | (simp; done) | fail) [wrapI, leT, leF, ltT, ltF, eqF, nleT, nleF, nltT, nltF, e, hi, hi1, hd]; rfl) ?_
      refine DW.ret ?_
      simp [Try.results22]
theorem lookUp_spec (l : List Item) (p : ByteArray) (hl : l.length < 2 ^ 40) : Spec Try.prog 21 [raV l, rs p] [none] [di (lookUp l p)] [raV l, rs p] := by
  refine Spec.intro Try.func21 rfl rfl Try.ntmps21 rfl (by simp) ?_
  have hbd := splitP_bd p
  obtain ⟨ns, code, hns⟩ : ∃ ns code, splitP p = (ns, code) := ⟨_, _, rfl⟩
  have hsp := splitPath_spec p
  have hLU : lookUp l p = if p = rootB then 0 else if 0 ≤ itemAt l p then 0 else if code ≠ 0 then code else lookW l ns (ns.length - 1) 1 := by unfold lookUp; rw [hns]
  rw [hns] at hsp hbd
  simp only at hsp hbd
  have hT := rD_take1_ByteArray ns
  have hTl := rD_len_ByteArray ns
  rw [hLU]
  clear hLU
  refine DW.seq ?_
  refine DW.reg (by simp (maxSteps := 200000) (disch := first | omega | (simp; done) | fail) [wrapI, leT, leF, ltT, ltF, eqF, nleT, nleF, nltT, nltF, hT, hTl]; rfl) ?_
  refine DW.seq ?_
  refine DW.regs ?_
  refine RegO.opN 1 (by simp (maxSteps := 200000) (disch := first | omega | (simp; done) | fail) [wrapI, leT, leF, ltT, ltF, eqF, nleT, nleF, nltT, nltF, hT, hTl]; rfl) ?_
  refine RegO.step rfl (OpStep.callA rfl (by simp (maxSteps := 200000) (disch := first | omega | (simp; done) | fail) [wrapI, leT, leF, ltT, ltF, eqF, nleT, nleF, nltT, nltF, hT, hTl]; exact ⟨rfl, rfl⟩) (by simp (maxSteps := 200000) (disch := first | omega | (simp; done) | fail) [wrapI, leT, leF, ltT, ltF, eqF, nleT, nleF, nltT, nltF, hT, hTl]; rfl) (by exact hsp) (by simp) (by simp (maxSteps := 200000) (disch := first | omega | (simp; done) | fail) [wrapI, leT, leF, ltT, ltF, eqF, nleT, nleF, nltT, nltF, hT, hTl]; rfl)) ?_
  refine RegO.opN 5 (by simp (maxSteps := 200000) (disch := first | omega | (simp; done) | fail) [wrapI, leT, leF, ltT, ltF, eqF, nleT, nleF, nltT, nltF, hT, hTl]; rfl) ?_
  refine RegO.nil ?_
  refine DW.norm [(1, _), (2, _), (5, _), (6, _)] [(2, _), (11, _)] [] (by simp [hT, hTl]; exact ⟨rfl, rfl, rfl, rfl⟩) (by simp [hT, hTl]; exact ⟨rfl, rfl⟩) (by simp [hT, hTl]) (by rfl) ?_
  refine DW.seq ?_
  refine DW.seq ?_
  by_cases hr : p = rootB
  · rw [if_pos hr]
    have hrb : (p.toList == [47]) = true := by rw [beq_iff_eq]; exact (rootB_iff p).2 hr
    have hrd := hr
    refine DW.reg (by simp (maxSteps := 200000) (disch := first | omega | (simp; done) | fail) [wrapI, leT, leF, ltT, ltF, eqF, nleT, nleF, nltT, nltF, hT, hTl, hrb, hrd]; rfl) ?_
    refine DW.norm [(2, _), (5, _), (6, _), (21, _)] [(2, _), (11, _)] [] (by simp [hT, hTl, hrb, hrd]; exact ⟨rfl, rfl, rfl, rfl⟩) (by simp [hT, hTl, hrb, hrd]; exact ⟨rfl, rfl⟩) (by simp [hT, hTl, hrb, hrd]) (by rfl) ?_
    refine DW.condT (by simp (maxSteps := 200000) (disch := first | omega | (simp; done) | fail) [wrapI, leT, leF, ltT, ltF, eqF, nleT, nleF, nltT, nltF, hT, hTl, hrb, hrd]) ?_
    refine DW.seq ?_
    refine DW.reg (by simp (maxSteps := 200000) (disch := first | omega | (simp; done) | fail) [wrapI, leT, leF, ltT, ltF, eqF, nleT, nleF, nltT, nltF, hT, hTl, hrb, hrd]; rfl) ?_
    refine DW.ret ?_
    simp [Try.results21]
  · rw [if_neg hr]
    have hrb : (p.toList == [47]) = false := by rw [beq_eq_false_iff_ne]; exact fun e => hr ((rootB_iff p).1 e)
    have hrl : ¬ p.toList = [47] := fun e => hr ((rootB_iff p).1 e)
    have hrd : ¬ p = rootB := hr
    refine DW.regs ?_
    refine RegO.opN 5 (by simp (maxSteps := 200000) (disch := first | omega | (simp; done) | fail) [wrapI, leT, leF, ltT, ltF, eqF, nleT, nleF, nltT, nltF, hT, hTl, hrb, hrl, hrd]; rfl) ?_
    refine RegO.stepT (by simp (maxSteps := 200000) (disch := first | omega | (simp; done) | fail) [wrapI, leT, leF, ltT, ltF, eqF, nleT, nleF, nltT, nltF, hT, hTl, hrb, hrl, hrd]) (OpStep.callA rfl (by simp (maxSteps := 200000) (disch := first | omega | (simp; done) | fail) [wrapI, leT, leF, ltT, ltF, eqF, nleT, nleF, nltT, nltF, hT, hTl, hrb, hrl, hrd]; exact ⟨rfl, rfl⟩) (by simp (maxSteps := 200000) (disch := first | omega | (simp; done) | fail) [wrapI, leT, leF, ltT, ltF, eqF, nleT, nleF, nltT, nltF, hT, hTl, hrb, hrl, hrd]; rfl) (by exact itemAt_spec l p hl) (by simp) (by simp (maxSteps := 200000) (disch := first | omega | (simp; done) | fail) [wrapI, leT, leF, ltT, ltF, eqF, nleT, nleF, nltT, nltF, hT, hTl, hrb, hrl, hrd]; rfl)) ?_
    refine RegO.opN 2 (by simp (maxSteps := 200000) (disch := first | omega | (simp; done) | fail) [wrapI, leT, leF, ltT, ltF, eqF, nleT, nleF, nltT, nltF, hT, hTl, hrb, hrl, hrd]; rfl) ?_
    refine RegO.nil ?_
    refine DW.norm [(2, _), (5, _), (6, _), (21, _)] [(2, _), (11, _)] [] (by simp [hT, hTl, hrb, hrl, hrd]; exact ⟨rfl, rfl, rfl, rfl⟩) (by simp [hT, hTl, hrb, hrl, hrd]; exact ⟨rfl, rfl⟩) (by simp [hT, hTl, hrb, hrl, hrd]) (by rfl) ?_
    refine DW.condB (by simp (maxSteps := 200000) (disch := first | omega | (simp; done) | fail) [wrapI, leT, leF, ltT, ltF, eqF, nleT, nleF, nltT, nltF, hT, hTl, hrb, hrl, hrd]; exact rfl) (fun hc0 => ?_) (fun hc0 => ?_)
    · have hge : 0 ≤ itemAt l p := by simpa using hc0
      rw [if_pos hge]
      refine DW.seq ?_
      refine DW.reg (by simp (maxSteps := 200000) (disch := first | omega | (simp; done) | fail) [wrapI, leT, leF, ltT, ltF, eqF, nleT, nleF, nltT, nltF, hT, hTl, hrb, hrl, hrd]; rfl) ?_
      refine DW.ret ?_
      simp [Try.results21]
    · have hge : ¬ 0 ≤ itemAt l p := by simpa using hc0
      rw [if_neg hge]
      refine DW.skip ?_
      refine DW.seq ?_
      refine DW.seq ?_
      refine DW.reg (by simp (maxSteps := 200000) (disch := first | omega | (simp; done) | fail) [wrapI, leT, leF, ltT, ltF, eqF, nleT, nleF, nltT, nltF, hT, hTl, hrb, hrl, hrd]; rfl) ?_
      refine DW.condB (by simp (maxSteps := 200000) (disch := first | omega | (simp; done) | fail) [wrapI, leT, leF, ltT, ltF, eqF, nleT, nleF, nltT, nltF, hT, hTl, hrb, hrl, hrd]; exact rfl) (fun hc1 => ?_) (fun hc1 => ?_)
      · have hcd : code ≠ 0 := by simpa using hc1
        rw [if_pos hcd]
        refine DW.seq ?_
        refine DW.reg (by simp (maxSteps := 200000) (disch := first | omega | (simp; done) | fail) [wrapI, leT, leF, ltT, ltF, eqF, nleT, nleF, nltT, nltF, hT, hTl, hrb, hrl, hrd]; rfl) ?_
        refine DW.ret ?_
        simp [Try.results21]
      · have hcd : ¬ code ≠ 0 := by simpa using hc1
        rw [if_neg hcd]
        obtain ⟨R, hRR⟩ : ∃ R, lookW l ns (ns.length - 1) 1 = R := ⟨_, rfl⟩
        rw [hRR]
        refine DW.skip ?_
        refine DW.seq ?_
        refine DW.seq ?_
        refine DW.reg (by simp (maxSteps := 200000) (disch := first | omega | (simp; done) | fail) [wrapI, leT, leF, ltT, ltF, eqF, nleT, nleF, nltT, nltF, hT, hTl, hrb, hrl, hrd]; rfl) ?_
        refine DW.block ?_
        refine DW.loopS (α := Nat) (fun i => 1 ≤ i ∧ lookW l ns (ns.length - i) i = R) (fun i => ns.length - i) (fun i => [(7, vi i)]) (fun i => []) [(2, _), (5, _)] [(2, _), (11, _)] [] 1 (⟨Nat.le_refl _, hRR⟩) (by simp; exact ⟨rfl, rfl⟩) (by simp; exact ⟨rfl, rfl⟩) (by simp) (by rfl) ?_
        rintro i ⟨hi, hR⟩
        refine DW.seq ?_
        refine DW.seq ?_
        refine DW.reg (by simp (maxSteps := 200000) (disch := first | omega | (simp; done) | fail) [wrapI, leT, leF, ltT, ltF, eqF, nleT, nleF, nltT, nltF, hT, hTl, hrb, hrl, hrd]; rfl) ?_
        refine DW.condB (by simp (maxSteps := 200000) (disch := first | omega | (simp; done) | fail) [wrapI, leT, leF, ltT, ltF, eqF, nleT, nleF, nltT, nltF, hT, hTl, hrb, hrl, hrd]; exact rfl) (fun hc2 => ?_) (fun hc2 => ?_)
        · have hlt : i < ns.length := by simpa using hc2
          have hlt1 : (i : Int) < ns.length := by omega
          have hle : i ≤ ns.length := by omega
          have hw := wr ((i : Int) + 1) (by omega) (by omega)
          have hTk : List.take i (rD ns) = rD (ns.take i) := rD_takeB ns i
          have hTk2 : (ns.take i).length = i := by rw [List.length_take]; omega
          have hjp := joinPath_spec (ns.take i) (by omega) (fun x hx => hbd.2 x (List.mem_of_mem_take hx))
          simp only [ra, hTk2] at hjp
          rw [lookW_step l ns i hlt] at hR
          generalize joinP (ns.take i) = up at hjp hR
          refine DW.skip ?_
          refine DW.seq ?_
          refine DW.block ?_
          refine DW.seq ?_
          refine DW.regs ?_
          refine RegO.opN 3 (by simp (maxSteps := 200000) (disch := first | omega | (simp; done) | fail) [wrapI, leT, leF, ltT, ltF, eqF, nleT, nleF, nltT, nltF, hT, hTl, hrb, hrl, hrd, hlt1, hle, hw, hTk, hTk2]; rfl) ?_
          refine RegO.step rfl (OpStep.callA rfl (by simp (maxSteps := 200000) (disch := first | omega | (simp; done) | fail) [wrapI, leT, leF, ltT, ltF, eqF, nleT, nleF, nltT, nltF, hT, hTl, hrb, hrl, hrd, hlt1, hle, hw, hTk, hTk2]; exact ⟨rfl, rfl⟩) (by simp (maxSteps := 200000) (disch := first | omega | (simp; done) | fail) [wrapI, leT, leF, ltT, ltF, eqF, nleT, nleF, nltT, nltF, hT, hTl, hrb, hrl, hrd, hlt1, hle, hw, hTk, hTk2]; rfl) (by exact hjp) (by simp) (by simp (maxSteps := 200000) (disch := first | omega | (simp; done) | fail) [wrapI, leT, leF, ltT, ltF, eqF, nleT, nleF, nltT, nltF, hT, hTl, hrb, hrl, hrd, hlt1, hle, hw, hTk, hTk2]; rfl)) ?_
          refine RegO.opN 1 (by simp (maxSteps := 200000) (disch := first | omega | (simp; done) | fail) [wrapI, leT, leF, ltT, ltF, eqF, nleT, nleF, nltT, nltF, hT, hTl, hrb, hrl, hrd, hlt1, hle, hw, hTk, hTk2]; rfl) ?_
          refine RegO.nil ?_
          refine DW.norm [(2, _), (5, _), (7, _), (8, _)] [(2, _), (11, _)] [] (by simp [hT, hTl, hrb, hrl, hrd, hlt1, hle, hw, hTk, hTk2]; exact ⟨rfl, rfl, rfl, rfl⟩) (by simp [hT, hTl, hrb, hrl, hrd, hlt1, hle, hw, hTk, hTk2]; exact ⟨rfl, rfl⟩) (by simp [hT, hTl, hrb, hrl, hrd, hlt1, hle, hw, hTk, hTk2]) (by rfl) ?_
          refine DW.seq ?_
          refine DW.seq ?_
          refine DW.regs ?_
          refine RegO.opN 2 (by simp (maxSteps := 200000) (disch := first | omega | (simp; done) | fail) [wrapI, leT, leF, ltT, ltF, eqF, nleT, nleF, nltT, nltF, hT, hTl, hrb, hrl, hrd, hlt1, hle, hw, hTk, hTk2]; rfl) ?_
          refine RegO.step rfl (OpStep.callA rfl (by simp (maxSteps := 200000) (disch := first | omega | (simp; done) | fail) [wrapI, leT, leF, ltT, ltF, eqF, nleT, nleF, nltT, nltF, hT, hTl, hrb, hrl, hrd, hlt1, hle, hw, hTk, hTk2]; exact ⟨rfl, rfl⟩) (by simp (maxSteps := 200000) (disch := first | omega | (simp; done) | fail) [wrapI, leT, leF, ltT, ltF, eqF, nleT, nleF, nltT, nltF, hT, hTl, hrb, hrl, hrd, hlt1, hle, hw, hTk, hTk2]; rfl) (by exact itemAt_spec l up hl) (by simp) (by simp (maxSteps := 200000) (disch := first | omega | (simp; done) | fail) [wrapI, leT, leF, ltT, ltF, eqF, nleT, nleF, nltT, nltF, hT, hTl, hrb, hrl, hrd, hlt1, hle, hw, hTk, hTk2]; rfl)) ?_
          refine RegO.opN 1 (by simp (maxSteps := 200000) (disch := first | omega | (simp; done) | fail) [wrapI, leT, leF, ltT, ltF, eqF, nleT, nleF, nltT, nltF, hT, hTl, hrb, hrl, hrd, hlt1, hle, hw, hTk, hTk2]; rfl) ?_
          refine RegO.nil ?_
          refine DW.condB (by simp (maxSteps := 200000) (disch := first | omega | (simp; done) | fail) [wrapI, leT, leF, ltT, ltF, eqF, nleT, nleF, nltT, nltF, hT, hTl, hrb, hrl, hrd, hlt1, hle, hw, hTk, hTk2]; exact rfl) (fun hc3 => ?_) (fun hc3 => ?_)
          · have hu : itemAt l up < 0 := by simpa using hc3
            rw [if_pos hu] at hR
            rw [← hR]
            refine DW.seq ?_
            refine DW.reg (by simp (maxSteps := 200000) (disch := first | omega | (simp; done) | fail) [wrapI, leT, leF, ltT, ltF, eqF, nleT, nleF, nltT, nltF, hT, hTl, hrb, hrl, hrd, hlt1, hle, hw, hTk, hTk2]; rfl) ?_
            refine DW.ret ?_
            simp [Try.results21]
          · have hu : ¬ itemAt l up < 0 := by simpa using hc3
            rw [if_neg hu] at hR
            refine DW.skip ?_
            refine DW.seq ?_
            refine DW.regs ?_
            refine RegO.opN 2 (by simp (maxSteps := 200000) (disch := first | omega | (simp; done) | fail) [wrapI, leT, leF, ltT, ltF, eqF, nleT, nleF, nltT, nltF, hT, hTl, hrb, hrl, hrd, hlt1, hle, hw, hTk, hTk2]; rfl) ?_
            refine RegO.step rfl (OpStep.callA rfl (by simp (maxSteps := 200000) (disch := first | omega | (simp; done) | fail) [wrapI, leT, leF, ltT, ltF, eqF, nleT, nleF, nltT, nltF, hT, hTl, hrb, hrl, hrd, hlt1, hle, hw, hTk, hTk2]; exact ⟨rfl, rfl⟩) (by simp (maxSteps := 200000) (disch := first | omega | (simp; done) | fail) [wrapI, leT, leF, ltT, ltF, eqF, nleT, nleF, nltT, nltF, hT, hTl, hrb, hrl, hrd, hlt1, hle, hw, hTk, hTk2]; rfl) (by exact dirV_spec l up hl) (by simp) (by simp (maxSteps := 200000) (disch := first | omega | (simp; done) | fail) [wrapI, leT, leF, ltT, ltF, eqF, nleT, nleF, nltT, nltF, hT, hTl, hrb, hrl, hrd, hlt1, hle, hw, hTk, hTk2]; rfl)) ?_
            refine RegO.opN 1 (by simp (maxSteps := 200000) (disch := first | omega | (simp; done) | fail) [wrapI, leT, leF, ltT, ltF, eqF, nleT, nleF, nltT, nltF, hT, hTl, hrb, hrl, hrd, hlt1, hle, hw, hTk, hTk2]; rfl) ?_
            refine RegO.nil ?_
            refine DW.condB (by simp (maxSteps := 200000) (disch := first | omega | (simp; done) | fail) [wrapI, leT, leF, ltT, ltF, eqF, nleT, nleF, nltT, nltF, hT, hTl, hrb, hrl, hrd, hlt1, hle, hw, hTk, hTk2]; exact rfl) (fun hc4 => ?_) (fun hc4 => ?_)
            · have hv : isDirV l up = false := by simpa using hc4
              rw [if_pos hv] at hR
              rw [← hR]
              refine DW.seq ?_
              refine DW.reg (by simp (maxSteps := 200000) (disch := first | omega | (simp; done) | fail) [wrapI, leT, leF, ltT, ltF, eqF, nleT, nleF, nltT, nltF, hT, hTl, hrb, hrl, hrd, hlt1, hle, hw, hTk, hTk2]; rfl) ?_
              refine DW.ret ?_
              simp [Try.results21]
            · have hv : ¬ isDirV l up = false := by simpa using hc4
              rw [if_neg hv] at hR
              refine DW.skip ?_
              refine DW.reg (by simp (maxSteps := 200000) (disch := first | omega | (simp; done) | fail) [wrapI, leT, leF, ltT, ltF, eqF, nleT, nleF, nltT, nltF, hT, hTl, hrb, hrl, hrd, hlt1, hle, hw, hTk, hTk2]; rfl) ?_
              exact ⟨i + 1, ⟨by omega, hR⟩, by omega, by simp [hw], by simp, by simp, by rfl⟩
        · have hil : ¬ i < ns.length := by simpa using hc2
          rw [show ns.length - i = 0 by omega, lookW] at hR
          rw [← hR]
          refine DW.exit ?_
          refine DW.seq ?_
          refine DW.reg (by simp (maxSteps := 200000) (disch := first | omega | (simp; done) | fail) [wrapI, leT, leF, ltT, ltF, eqF, nleT, nleF, nltT, nltF, hT, hTl, hrb, hrl, hrd]; rfl) ?_
          refine DW.ret ?_
          simp [Try.results21]
end Go.Proofs.Ytciieaidbiejmaa.DM
