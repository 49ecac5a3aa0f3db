import Derived.Test.YtjjdjkkhhcbogaaFM7
namespace Go.Proofs.Ytjjdjkkhhcbogaa.DM
set_option linter.unusedVariables false
set_option linter.unusedSimpArgs false
set_option maxRecDepth 4000
set_option maxHeartbeats 8000000
def stepM (m : Memory) (s : Step) : Memory := if s.Kind = 1 then storeM m s.At s.Word else if s.Kind = 2 then flushM m s.At else if s.Kind = 3 then fenceM m else m
theorem storeM_bd (m : Memory) (x : Int) (w : ByteArray) : (storeM m x w).Kept.size = m.Kept.size ∧ (storeM m x w).Cells.length ≤ m.Cells.length + 1 := by
  unfold storeM
  split
  · split
    · split
      · exact ⟨rfl, (fillS_len _ _ _).1⟩
      · exact ⟨rfl, Nat.le_succ _⟩
    · exact ⟨rfl, Nat.le_succ _⟩
  · exact ⟨rfl, Nat.le_succ _⟩
theorem flushAt_len (l : List Cell) (i : Nat) : (flushAt l i).length = l.length := by unfold flushAt; split <;> simp
theorem flushM_bd (m : Memory) (x : Int) : (flushM m x).Kept.size = m.Kept.size ∧ (flushM m x).Cells.length ≤ m.Cells.length + 1 := by
  unfold flushM
  split
  · split
    · exact ⟨rfl, by show (flushAt _ _).length ≤ _; rw [flushAt_len]; exact Nat.le_succ _⟩
    · exact ⟨rfl, Nat.le_succ _⟩
  · exact ⟨rfl, Nat.le_succ _⟩
theorem fenceM_bd (m : Memory) : (fenceM m).Kept.size = m.Kept.size ∧ (fenceM m).Cells.length ≤ m.Cells.length + 1 := by
  unfold fenceM
  split
  · rename_i h
    exact ⟨keptS_size (memOk_fits h), Nat.le_trans (List.length_filter_le _ _) (Nat.le_succ _)⟩
  · exact ⟨rfl, Nat.le_succ _⟩
theorem stepM_bd (m : Memory) (s : Step) : (stepM m s).Kept.size = m.Kept.size ∧ (stepM m s).Cells.length ≤ m.Cells.length + 1 := by
  unfold stepM
  split
  · exact storeM_bd _ _ _
  · split
    · exact flushM_bd _ _
    · split
      · exact fenceM_bd _
      · exact ⟨rfl, Nat.le_succ _⟩
def stepsM (m : Memory) (l : List Step) : Memory := l.foldl stepM m
theorem stepsM_succ (m : Memory) (l : List Step) (i : Nat) (h : i < l.length) : stepsM m (l.take (i + 1)) = stepM (stepsM m (l.take i)) l[i] := by
  have htk : l.take (i + 1) = l.take i ++ [l[i]] := by rw [List.take_add_one, List.getElem?_eq_getElem h]; rfl
  rw [htk]; generalize l.take i = a; generalize l[i] = c
  simp [stepsM]
theorem stepsM_bd : ∀ (l : List Step) (m : Memory), (stepsM m l).Kept.size = m.Kept.size ∧ (stepsM m l).Cells.length ≤ m.Cells.length + l.length
  | [], m => ⟨rfl, Nat.le_refl _⟩
  | s :: l, m => by
    have h1 := stepM_bd m s
    have h2 := stepsM_bd l (stepM m s)
    simp only [stepsM, List.foldl_cons, List.length_cons] at h2 ⊢
    omega

theorem specStep_spec (k : ByteArray) (l : List Cell) (s : Step) (hk : k.size < 2 ^ 40) (hl : l.length < 2 ^ 40) : Spec Try.prog 11 [raMemory ⟨k, l⟩, raStep s] [some 2] (dM (stepM ⟨k, l⟩ s)) [raMemory ⟨k, l⟩, raStep s] := by
  refine Spec.intro Try.func11 rfl rfl Try.ntmps11 rfl (by simp) ?_
  refine DW.seq ?_
  refine DW.reg (by simp; rfl) ?_
  refine DW.seq ?_
  refine DW.seq ?_
  refine DW.reg (by simp; rfl) ?_
  refine DW.block ?_
  refine DW.seq ?_
  refine DW.reg (by simp; rfl) ?_
  refine DW.condB (by simp; exact rfl) (fun hc0 => ?_) (fun hc0 => ?_)
  · have e1 : s.Kind = 1 := by simpa using hc0
    have hres : stepM ⟨k, l⟩ s = storeM ⟨k, l⟩ s.At s.Word := by simp [stepM, e1]
    refine DW.seq ?_
    refine DW.regs ?_
    refine RegO.opN 5 (by simp; rfl) ?_
    refine RegO.step rfl (OpStep.callA rfl (by simp; exact ⟨rfl, rfl⟩) (by simp; rfl) (by exact specWord_spec _ _ _ _ hk hl) (by simp) (by simp; rfl)) ?_
    refine RegO.opN 1 (by simp; rfl) ?_
    refine RegO.nil ?_
    refine DW.ret ?_
    rw [hres]
    simp [Try.results11, rD_len_Cell]
  · have n1 : ¬ s.Kind = 1 := by simpa using hc0
    refine DW.seq ?_
    refine DW.reg (by simp; rfl) ?_
    refine DW.condB (by simp; exact rfl) (fun hc1 => ?_) (fun hc1 => ?_)
    · have e2 : s.Kind = 2 := by simpa using hc1
      have hres : stepM ⟨k, l⟩ s = flushM ⟨k, l⟩ s.At := by simp [stepM, e2]
      refine DW.seq ?_
      refine DW.regs ?_
      refine RegO.opN 3 (by simp; rfl) ?_
      refine RegO.step rfl (OpStep.callA rfl (by simp; exact ⟨rfl, rfl⟩) (by simp; rfl) (by exact specFlush_spec _ _ _ hk hl) (by simp) (by simp; rfl)) ?_
      refine RegO.opN 1 (by simp; rfl) ?_
      refine RegO.nil ?_
      refine DW.ret ?_
      rw [hres]
      simp [Try.results11, rD_len_Cell]
    · have n2 : ¬ s.Kind = 2 := by simpa using hc1
      refine DW.seq ?_
      refine DW.reg (by simp; rfl) ?_
      refine DW.condB (by simp; exact rfl) (fun hc2 => ?_) (fun hc2 => ?_)
      · have e3 : s.Kind = 3 := by simpa using hc2
        have hres : stepM ⟨k, l⟩ s = fenceM ⟨k, l⟩ := by simp [stepM, e3]
        refine DW.seq ?_
        refine DW.regs ?_
        refine RegO.opN 1 (by simp; rfl) ?_
        refine RegO.step rfl (OpStep.callA rfl (by simp; exact ⟨rfl, rfl⟩) (by simp; rfl) (by exact specFence_spec _ _ hk hl) (by simp) (by simp; rfl)) ?_
        refine RegO.opN 1 (by simp; rfl) ?_
        refine RegO.nil ?_
        refine DW.ret ?_
        rw [hres]
        simp [Try.results11, rD_len_Cell]
      · have n3 : ¬ s.Kind = 3 := by simpa using hc2
        have hres : stepM ⟨k, l⟩ s = ⟨k, l⟩ := by simp [stepM, n1, n2, n3]
        refine DW.skip ?_
        refine DW.seq ?_
        refine DW.regs ?_
        refine RegO.opN 1 (by simp; rfl) ?_
        refine RegO.step rfl (OpStep.callA rfl (by simp; exact ⟨rfl, rfl⟩) (by simp; rfl) (by exact l10Copy_spec _ _ hl) (by simp) (by simp; rfl)) ?_
        refine RegO.opN 1 (by simp; rfl) ?_
        refine RegO.nil ?_
        refine DW.ret ?_
        rw [hres]
        simp [Try.results11, rD_len_Cell]
theorem specSteps_spec (k : ByteArray) (l : List Cell) (L : List Step) (hk : k.size < 2 ^ 40) (hl : l.length + L.length < 2 ^ 40) : Spec Try.prog 19 [raMemory ⟨k, l⟩, ra L] [some 2] (dM (stepsM ⟨k, l⟩ L)) [raMemory ⟨k, l⟩, ra L] := by
  have hl : l.length < 2 ^ 40 := by omega
  refine Spec.intro Try.func19 rfl rfl Try.ntmps19 rfl (by simp) ?_
  refine DW.seq ?_
  refine DW.reg (by simp; rfl) ?_
  refine DW.seq ?_
  refine DW.regs ?_
  refine RegO.opN 1 (by simp; rfl) ?_
  refine RegO.step rfl (OpStep.callA rfl (by simp; exact ⟨rfl, rfl⟩) (by simp; rfl) (by exact l10Copy_spec _ _ hl) (by simp) (by simp; rfl)) ?_
  refine RegO.opN 1 (by simp; rfl) ?_
  refine RegO.nil ?_
  refine DW.seq ?_
  refine DW.seq ?_
  refine DW.reg (by simp; rfl) ?_
  refine DW.block ?_
  refine DW.loopS (α := Nat) (fun i => i ≤ L.length) (fun i => L.length - i) (fun i => [(5, vi i)]) (fun i => [(2, .ow () 2 1 (dM (stepsM ⟨k, l⟩ (L.take i))))]) [(1, _), (2, _), (4, _)] [(4, _)] [] 0 (Nat.zero_le _) (by simp; exact ⟨rfl, rfl, rfl⟩) (by simp [stepsM]; rfl) (by simp) (by rfl) ?_
  rintro i hi
  refine DW.seq ?_
  refine DW.seq ?_
  refine DW.reg (by simp; rfl) ?_
  refine DW.condB (by simp; exact rfl) (fun hc0 => ?_) (fun hc0 => ?_)
  · have hlt : i < L.length := by simpa using hc0
    have hlt' : (i : Int) < L.length := by omega
    have hd := rR_drop_Step L i hlt
    have w1 : IntKind.i64.wrap ((i : Int) + 1) = ((i + 1 : Nat) : Int) := (wr _ (by omega) (by omega)).trans (by omega)
    have hM := stepsM_succ ⟨k, l⟩ L i hlt
    have hbd := stepsM_bd (L.take i) ⟨k, l⟩
    rw [List.length_take] at hbd
    generalize L[i] = s at hd hM
    generalize (stepsM ⟨k, l⟩ (L.take i)) = m at hM hbd ⊢
    have hmk : m.Kept.size < 2 ^ 40 := by rw [hbd.1]; exact hk
    have hml : m.Cells.length < 2 ^ 40 := by have := hbd.2; simp only at this; omega
    refine DW.skip ?_
    refine DW.seq ?_
    refine DW.block ?_
    refine DW.drawn mixed (by kernel_rfl) ?_
    refine RegD.addN 5 (by simp [hd, hlt', rD_len_Cell]; (first | done | exact ⟨rfl, rfl⟩ | rfl)) ?_
    refine RegD.cert (Cert.callHA rfl (by simp) rfl (by decide) (by simp [hd, hlt', rD_len_Cell]; exact ⟨rfl, rfl⟩) (by simp [hd, hlt', rD_len_Cell]; rfl) (by exact specStep_spec m.Kept m.Cells s hmk hml) rfl (by simp) (by simp) (by simp; rfl) rfl) ?_
    refine RegD.heavyF (by simp) (by simp [hd, hlt', rD_len_Cell]; rfl) ?_
    refine RegD.nil ⟨by kernel_rfl, ?_⟩
    refine DW.reg (by simp [w1]; rfl) ?_
    exact ⟨i + 1, hlt, by omega, by simp, by simp [hM, rD_len_Cell], by simp, by rfl⟩
  · have hil : i = L.length := by
      have : ¬ i < L.length := by simpa using hc0
      omega
    subst hil
    rw [List.take_length]
    refine DW.exit ?_
    refine DW.seq ?_
    refine DW.reg (by simp; rfl) ?_
    refine DW.ret ?_
    simp [Try.results19, rD_len_Cell]
end Go.Proofs.Ytjjdjkkhhcbogaa.DM
