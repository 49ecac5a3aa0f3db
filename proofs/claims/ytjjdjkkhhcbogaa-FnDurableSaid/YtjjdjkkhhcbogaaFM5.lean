import Derived.Test.YtjjdjkkhhcbogaaFM4
namespace Go.Proofs.Ytjjdjkkhhcbogaa.DM
set_option linter.unusedVariables false
set_option linter.unusedSimpArgs false
set_option maxRecDepth 4000
set_option maxHeartbeats 8000000
theorem take_set (l : List Cell) (i : Nat) (x : Cell) : List.take (l.length * 3) (rD (l.set i x)) = rD (l.set i x) := List.take_of_length_le (by rw [rD_len_Cell, List.length_set]; exact Nat.le_refl _)
def flushAt (l : List Cell) (i : Nat) : List Cell := match l[i]? with | some c => l.set i c.flush | none => l
def flushM (m : Memory) (line : Int) : Memory := if 0 ≤ cellIx m.Cells line then (if memOk m.Kept m.Cells then ⟨m.Kept, flushAt m.Cells (cellIx m.Cells line).toNat⟩ else m) else m

theorem specFlush_spec (k : ByteArray) (l : List Cell) (line : Int) (hk : k.size < 2 ^ 40) (hl : l.length < 2 ^ 40) : Spec Try.prog 66 [raMemory ⟨k, l⟩, ri line] [some 2] (dM (flushM ⟨k, l⟩ line)) [raMemory ⟨k, l⟩, ri line] := by
  refine Spec.intro Try.func66 rfl rfl Try.ntmps66 rfl (by simp) ?_
  refine DW.seq ?_
  refine DW.reg (by simp; rfl) ?_
  refine DW.seq ?_
  refine DW.regs ?_
  refine RegO.opN 1 (by simp; rfl) ?_
  refine RegO.step rfl (OpStep.callA rfl (by simp; exact ⟨rfl, rfl⟩) (by simp; rfl) (by exact l10Copy_spec _ _ hl) (by simp) (by simp; rfl)) ?_
  refine RegO.opN 2 (by simp; rfl) ?_
  refine RegO.nil ?_
  refine DW.seq ?_
  refine DW.regs ?_
  refine RegO.opN 2 (by simp; rfl) ?_
  refine RegO.step rfl (OpStep.callA rfl (by simp; exact ⟨rfl, rfl⟩) (by simp; rfl) (by exact l10Cell_spec _ _ _ hl) (by simp) (by simp; rfl)) ?_
  refine RegO.opN 1 (by simp; rfl) ?_
  refine RegO.nil ?_
  refine DW.seq ?_
  refine DW.seq ?_
  by_cases hp : 0 ≤ cellIx l line
  · skip
    refine DW.regs ?_
    refine RegO.opN 4 (by simp [hp]; rfl) ?_
    refine RegO.guard (b := true) (by simp [hp]) (fun _ => ⟨_, (OpStep.callA rfl (by simp [hp]; exact ⟨rfl, rfl⟩) (by simp [hp]; rfl) (by exact specOk_spec _ _ hk hl) (by simp) (by simp [hp]; rfl)).toE, fun _ e => e ▸ ?_⟩) (fun h => by cases h)
    refine RegO.opN 1 (by simp [hp]; rfl) ?_
    refine RegO.nil ?_
    refine DW.condB (by simp [hp]; exact rfl) (fun hc0 => ?_) (fun hc0 => ?_)
    · have hok : memOk k l = true := by simpa [hp] using hc0
      have hres : flushM ⟨k, l⟩ line = ⟨k, flushAt l (cellIx l line).toNat⟩ := by simp [flushM, hp, hok]
      have hi : (cellIx l line).toNat < l.length := by rcases cellIx_bd l line with h | h <;> omega
      have hml : cellIx l line < l.length := by omega
      have hcm : l[(cellIx l line).toNat]? = some l[(cellIx l line).toNat] := List.getElem?_eq_getElem hi
      have ha := cD_at l _ 2 hi (by omega)
      have hs := cD_set l _ 2 hi (by omega) (Cell.flush l[(cellIx l line).toNat]) (.sc (.bool true)) rfl
      simp only [Cell.d, List.getElem?_cons_succ, List.getElem?_cons_zero] at ha
      have hfl : flushAt l (cellIx l line).toNat = l.set (cellIx l line).toNat l[(cellIx l line).toNat].flush := by simp only [flushAt, hcm]
      rw [hfl] at hres
      refine DW.reg (by simp [hp, hml, ha, hs]; rfl) ?_
      refine DW.seq ?_
      refine DW.reg (by simp [hp, hml, ha, hs]; rfl) ?_
      refine DW.ret ?_
      simp [Try.results66, hres, rD_len_Cell, take_set]
    · have hok : memOk k l = false := by simpa [hp] using hc0
      have hres : flushM ⟨k, l⟩ line = ⟨k, l⟩ := by simp [flushM, hp, hok]
      refine DW.skip ?_
      refine DW.seq ?_
      refine DW.reg (by simp [hp]; rfl) ?_
      refine DW.ret ?_
      simp [Try.results66, hres, rD_len_Cell, take_set]
  · have hres : flushM ⟨k, l⟩ line = ⟨k, l⟩ := by simp [flushM, hp]
    have hnp := hp
    refine DW.regs ?_
    refine RegO.opN 4 (by simp [hnp]; rfl) ?_
    refine RegO.guard (b := false) (by simp [hnp]) (fun h => by cases h) (fun _ => ⟨by simp, ?_⟩)
    refine RegO.opN 1 (by simp [hnp]; rfl) ?_
    refine RegO.nil ?_
    refine DW.condF (by simp [hnp]) ?_
    refine DW.skip ?_
    refine DW.seq ?_
    refine DW.reg (by simp [hnp]; rfl) ?_
    refine DW.ret ?_
    simp [Try.results66, hres, rD_len_Cell, take_set]
end Go.Proofs.Ytjjdjkkhhcbogaa.DM
