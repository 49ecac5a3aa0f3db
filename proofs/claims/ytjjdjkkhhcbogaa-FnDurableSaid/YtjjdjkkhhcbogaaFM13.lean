import Derived.Test.YtjjdjkkhhcbogaaFM12
namespace Go.Proofs.Ytjjdjkkhhcbogaa.DM
set_option linter.unusedVariables false
set_option linter.unusedSimpArgs false
set_option maxRecDepth 4000
set_option maxHeartbeats 8000000
theorem runSteps_spec (k : ByteArray) (l : List Cell) (L : List Step) (hk : k.size < 2 ^ 40) (hl : l.length + L.length < 2 ^ 40) : Spec Try.prog 21 [raMemory ⟨k, l⟩, ra L] [some 2] (dM (stepsM ⟨k, l⟩ L)) [raMemory ⟨k, l⟩, ra L] := by
  have hl : l.length < 2 ^ 40 := by omega
  refine Spec.intro Try.func21 rfl rfl Try.ntmps21 rfl (by simp) ?_
  refine DW.seq ?_
  refine DW.reg (by simp; rfl) ?_
  refine DW.seq ?_
  refine DW.regs ?_
  refine RegO.opN 1 (by simp; rfl) ?_
  refine RegO.step rfl (OpStep.callA rfl (by simp; exact ⟨rfl, rfl⟩) (by simp; rfl) (by exact copyMemory_spec _ _ hl) (by simp) (by simp; rfl)) ?_
  refine RegO.opN 2 (by simp; rfl) ?_
  refine RegO.nil ?_
  refine DW.seq ?_
  refine DW.seq ?_
  refine DW.regs ?_
  refine RegO.opN 1 (by simp; rfl) ?_
  refine RegO.step rfl (OpStep.callA rfl (by simp; exact ⟨rfl, rfl⟩) (by simp; rfl) (by exact memOk_spec _ _ hk hl) (by simp) (by simp; rfl)) ?_
  refine RegO.nil ?_
  refine DW.condB (by simp; exact rfl) (fun hc0 => ?_) (fun hc0 => ?_)
  · have hok : memOk k l = true := by simpa using hc0
    have hfin : stepsM ⟨k, l⟩ (L.take L.length) = stepsM ⟨k, l⟩ L := by rw [List.take_length]
    refine DW.seq ?_
    refine DW.reg (by simp; rfl) ?_
    refine DW.block ?_
    refine DW.loopS (α := Nat) (fun i => i ≤ L.length) (fun i => L.length - i) (fun i => [(14, vi i)]) (fun i => [(5, .ow () 2 1 (dM (stepsM ⟨k, l⟩ (L.take i))))]) [(4, _), (5, _), (12, _), (13, _)] [(4, _)] [] 0 (Nat.zero_le _) (by simp; exact ⟨rfl, rfl, rfl, rfl⟩) (by simp [stepsM, rD_len_Cell]; rfl) (by simp) (by rfl) ?_
    rintro i hi
    refine DW.seq ?_
    refine DW.reg (by simp; rfl) ?_
    refine DW.seq ?_
    refine DW.condB (by simp; exact rfl) (fun hc1 => ?_) (fun hc1 => ?_)
    · have hlt : i < L.length := by simpa using hc1
      have hlt' : (i : Int) < L.length := by omega
      have hd := rR_drop_Step L i hlt
      have w1 : IntKind.i64.wrap ((i : Int) + 1) = ((i + 1 : Nat) : Int) := (wr _ (by omega) (by omega)).trans (by omega)
      have hM := stepsM_succ ⟨k, l⟩ L i hlt
      have hbd := stepsM_bd (L.take i) ⟨k, l⟩
      have hmok := stepsM_ok (L.take i) (m := ⟨k, l⟩) hok
      rw [List.length_take] at hbd
      generalize L[i] = s at hd hM
      generalize (stepsM ⟨k, l⟩ (L.take i)) = m at hM hbd hmok ⊢
      have hmk : m.Kept.size < 2 ^ 40 := by rw [hbd.1]; exact hk
      have hml : m.Cells.length < 2 ^ 40 := by have := hbd.2; simp only at this; omega
      refine DW.skip ?_
      refine DW.seq ?_
      refine DW.block ?_
      refine DW.seq ?_
      refine DW.reg (by simp [hd, hlt', rD_len_Cell]; rfl) ?_
      refine DW.regs ?_
      refine RegO.opN 1 (by simp; rfl) ?_
      refine RegO.step rfl (OpStep.callP (io := 0) (id := 5) (off := 0) (p := []) (sz := 2) (n := 1) (cs0 := dM m) rfl (by simp [callArgs]; rfl) (run_spec m.Kept m.Cells s hmok hmk hml) (by simp) rfl rfl (by simp) rfl (by simp) (by simp) (by simp) (by simp [callArgs, FS.lend]; rfl) (by simp [rosOk, roA_, toRC, mapO]) (by simp [widen, ownV, ownC]) (by simp [finish, packDV, packD, ptBack]; rfl)) ?_
      refine RegO.nil ?_
      refine DW.reg (by simp [w1]; rfl) ?_
      exact ⟨i + 1, hlt, by omega, by simp [mapV, pzR, inR, w1], by simp [hM, rD_len_Cell, mapV, pzR, inR], by simp [mapV, pzR, inR], by rfl⟩
    · have hil : i = L.length := by
        have : ¬ i < L.length := by simpa using hc1
        omega
      subst hil
      rw [← hfin]
      refine DW.exit ?_
      refine DW.seq ?_
      refine DW.reg (by simp; rfl) ?_
      refine DW.ret ?_
      simp [Try.results21, rD_len_Cell]
  · have hok : memOk k l = false := by simpa using hc0
    have hfin : stepsM ⟨k, l⟩ L = ⟨k, l⟩ := stepsM_bad L hok
    refine DW.skip ?_
    refine DW.seq ?_
    refine DW.reg (by simp [hfin]; rfl) ?_
    refine DW.ret ?_
    simp [Try.results21, rD_len_Cell, hfin]
theorem runStep_spec (k : ByteArray) (l : List Cell) (s : Step) (hk : k.size < 2 ^ 40) (hl : l.length + 1 < 2 ^ 40) : Spec Try.prog 14 [raMemory ⟨k, l⟩, raStep s] [some 2] (dM (stepM ⟨k, l⟩ s)) [raMemory ⟨k, l⟩, raStep s] := by
  refine Spec.intro Try.func14 rfl rfl Try.ntmps14 rfl (by simp) ?_
  refine DW.seq ?_
  refine DW.reg (by simp; rfl) ?_
  refine DW.seq ?_
  refine DW.regs ?_
  refine RegO.opN 3 (by simp; rfl) ?_
  refine RegO.step rfl (OpStep.callA rfl (by simp; exact ⟨rfl, rfl⟩) (by simp; rfl) (by exact runSteps_spec k l [s] hk (by simp; omega)) (by simp) (by simp; rfl)) ?_
  refine RegO.opN 1 (by simp; rfl) ?_
  refine RegO.nil ?_
  refine DW.ret ?_
  simp [Try.results14, rD_len_Cell, stepsM]
end Go.Proofs.Ytjjdjkkhhcbogaa.DM
