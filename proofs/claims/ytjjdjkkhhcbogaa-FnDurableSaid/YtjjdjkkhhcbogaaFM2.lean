import Derived.Test.YtjjdjkkhhcbogaaFM1
namespace Go.Proofs.Ytjjdjkkhhcbogaa.DM
set_option linter.unusedVariables false
set_option linter.unusedSimpArgs false
set_option maxRecDepth 4000
set_option maxHeartbeats 8000000
theorem l01In_spec (x lo hi : Int) : Spec Try.prog 84 [ri x, ri lo, ri hi] [none] [db (inB x lo hi)] [ri x, ri lo, ri hi] := by
  refine Spec.intro Try.func84 rfl rfl Try.ntmps84 rfl (by simp) ?_
  refine DW.seq ?_
  refine DW.reg (by simp; rfl) ?_
  refine DW.seq ?_
  by_cases h1 : lo ≤ x
  · skip
    refine DW.reg (by simp [h1]; rfl) ?_
    refine DW.ret ?_
    simp [Try.results84, inB, h1]
  · skip
    refine DW.reg (by simp [h1]; rfl) ?_
    refine DW.ret ?_
    simp [Try.results84, inB, h1]
theorem l10Size_spec : Spec Try.prog 98 [] [none] [di 16] [] := by
  refine Spec.intro Try.func98 rfl rfl Try.ntmps98 rfl (by simp) ?_
  refine DW.seq ?_
  refine DW.reg (by simp; rfl) ?_
  refine DW.seq ?_
  refine DW.reg (by simp; rfl) ?_
  refine DW.ret ?_
  simp [Try.results98]
theorem l10Words_spec (k : ByteArray) (l : List Cell) (hk : k.size < 2 ^ 40) : Spec Try.prog 85 [raMemory ⟨k, l⟩] [none] [di (k.size / 8 : Nat)] [raMemory ⟨k, l⟩] := by
  refine Spec.intro Try.func85 rfl rfl Try.ntmps85 rfl (by simp) ?_
  have w1 : IntKind.i64.wrap ((k.size : Int) / 8) = (k.size : Int) / 8 := wr _ (by omega) (by omega)
  refine DW.seq ?_
  refine DW.reg (by simp [w1]; rfl) ?_
  refine DW.seq ?_
  refine DW.reg (by simp [w1]; rfl) ?_
  refine DW.ret ?_
  simp [Try.results85]
theorem l10Copy_spec (k : ByteArray) (l : List Cell) (hl : l.length < 2 ^ 40) : Spec Try.prog 67 [raMemory ⟨k, l⟩] [some 2] (dMem k l) [raMemory ⟨k, l⟩] := by
  refine Spec.intro Try.func67 rfl rfl Try.ntmps67 rfl (by simp) ?_
  have c1 : l.length * 32 ≤ 140737488355328 := by omega
  have c2 : l.length ≤ 140737488355328 := by omega
  refine DW.seq ?_
  refine DW.reg (by simp; rfl) ?_
  refine DW.seq ?_
  refine DW.drawn mixed (by kernel_rfl) ?_
  refine RegD.addN 2 (by simp; first | exact ⟨rfl, rfl⟩ | rfl) ?_
  refine RegD.cert (Cert.nilSlice rfl rfl rfl (by decide) (by simp; exact ⟨rfl, rfl⟩) (by simp; rfl) (by simp; rfl) (by rfl) (by decide)) ?_
  refine RegD.addN 2 (by simp; first | exact ⟨rfl, rfl⟩ | rfl) ?_
  refine RegD.cert (Cert.appNil (m := l.length) (rcs := rR l) rfl rfl rfl (by decide) (by simp; exact ⟨rfl, rfl⟩) (by simp; rfl) (by rfl) (by simp; rfl) (by simp) (by simp) (by simp) (by simp) (by decide) (by simp [c1]) (by simp [c2]) (by simp)) ?_
  refine RegD.addN 1 (by simp; first | exact ⟨rfl, rfl⟩ | rfl) ?_
  refine RegD.heavyF (by simp) (by simp; rfl) ?_
  refine RegD.nil ⟨by kernel_rfl, ?_⟩
  refine DW.ret ?_
  simp [Try.results67]
/-- Where a line's cell is, looked for from a place on; -1. -/
def cellFrom (l : List Cell) (line : Int) (i : Nat) : Int := if h : i < l.length then (if l[i].Line = line then (i : Int) else cellFrom l line (i + 1)) else -1
termination_by l.length - i
def cellIx (l : List Cell) (line : Int) : Int := cellFrom l line 0
theorem cellFrom_bd (l : List Cell) (line : Int) : ∀ (n i : Nat), n = l.length - i → cellFrom l line i = -1 ∨ (0 ≤ cellFrom l line i ∧ cellFrom l line i < l.length)
  | n, i, hn => by
    rw [cellFrom]
    split
    · rename_i h
      split
      · exact .inr ⟨by omega, by omega⟩
      · cases n with
        | zero => omega
        | succ n => exact cellFrom_bd l line n (i + 1) (by omega)
    · exact .inl rfl
theorem cellIx_bd (l : List Cell) (line : Int) : cellIx l line = -1 ∨ (0 ≤ cellIx l line ∧ cellIx l line < l.length) := cellFrom_bd l line _ 0 rfl
def lineS (k : ByteArray) (l : List Cell) (line : Int) : ByteArray := if 0 ≤ cellIx l line then (match l[(cellIx l line).toNat]? with | some c => c.Text | none => ByteArray.empty) else k.extract (line * 16).toNat ((line + 1) * 16).toNat

theorem l10Cell_spec (k : ByteArray) (l : List Cell) (line : Int) (hl : l.length < 2 ^ 40) : Spec Try.prog 120 [raMemory ⟨k, l⟩, ri line] [none] [di (cellIx l line)] [raMemory ⟨k, l⟩, ri line] := by
  refine Spec.intro Try.func120 rfl rfl Try.ntmps120 rfl (by simp) ?_
  refine DW.seq ?_
  refine DW.reg (by simp; rfl) ?_
  refine DW.seq ?_
  refine DW.seq ?_
  refine DW.reg (by simp; rfl) ?_
  refine DW.block ?_
  refine DW.loopS (α := Nat) (fun i => i ≤ l.length ∧ cellFrom l line i = cellIx l line) (fun i => l.length - i) (fun i => [(5, vi i)]) (fun i => []) [(1, _), (2, _)] [(2, _)] [] 0 (⟨Nat.zero_le _, rfl⟩) (by simp; exact ⟨rfl, rfl⟩) (by simp; exact rfl) (by simp) (by rfl) ?_
  rintro i ⟨hi, hx⟩
  refine DW.seq ?_
  refine DW.seq ?_
  refine DW.reg (by simp; rfl) ?_
  refine DW.condB (by simp; exact rfl) (fun hc0 => ?_) (fun hc0 => ?_)
  · have hlt : i < l.length := by simpa using hc0
    have hd := rR_drop_Cell l i hlt
    have hlt' : (i : Int) < l.length := by omega
    have w1 : IntKind.i64.wrap ((i : Int) + 1) = ((i + 1 : Nat) : Int) := (wr _ (by omega) (by omega)).trans (by omega)
    rw [cellFrom, dif_pos hlt] at hx
    generalize l[i] = c at hd hx
    refine DW.skip ?_
    refine DW.seq ?_
    refine DW.block ?_
    refine DW.seq ?_
    refine DW.reg (by simp [hd, hlt']; rfl) ?_
    refine DW.condB (by simp; exact rfl) (fun hc1 => ?_) (fun hc1 => ?_)
    · have hcc : c.Line = line := by simpa using hc1
      rw [if_pos hcc] at hx
      refine DW.seq ?_
      refine DW.reg (by simp; rfl) ?_
      refine DW.ret ?_
      simp [Try.results120, ← hx]
    · have hcc : ¬ c.Line = line := by simpa using hc1
      rw [if_neg hcc] at hx
      refine DW.skip ?_
      refine DW.reg (by simp [w1]; rfl) ?_
      exact ⟨i + 1, ⟨hlt, hx⟩, by omega, by simp, by simp, by simp, by rfl⟩
  · have hil : ¬ i < l.length := by simpa using hc0
    rw [cellFrom, dif_neg hil] at hx
    refine DW.exit ?_
    refine DW.seq ?_
    refine DW.reg (by simp; rfl) ?_
    refine DW.ret ?_
    simp [Try.results120, ← hx]
theorem l10Line_spec (k : ByteArray) (l : List Cell) (line : Int) (hl : l.length < 2 ^ 40) (h0 : 0 ≤ line) (hnf : ¬ 0 ≤ cellIx l line → (line + 1) * 16 ≤ k.size) (hk : k.size < 2 ^ 40) : Spec Try.prog 132 [raMemory ⟨k, l⟩, ri line] [none] [ds (lineS k l line)] [raMemory ⟨k, l⟩, ri line] := by
  refine Spec.intro Try.func132 rfl rfl Try.ntmps132 rfl (by simp) ?_
  refine DW.seq ?_
  refine DW.reg (by simp; rfl) ?_
  refine DW.seq ?_
  refine DW.regs ?_
  refine RegO.opN 2 (by simp; rfl) ?_
  refine RegO.step rfl (OpStep.callA rfl (by simp; exact ⟨rfl, rfl⟩) (by simp; rfl) (by exact l10Cell_spec _ _ _ hl) (by simp) (by simp; rfl)) ?_
  refine RegO.opN 1 (by simp; rfl) ?_
  refine RegO.nil ?_
  refine DW.seq ?_
  refine DW.seq ?_
  refine DW.reg (by simp; rfl) ?_
  refine DW.condB (by simp; exact rfl) (fun hc0 => ?_) (fun hc0 => ?_)
  · have hp : 0 ≤ cellIx l line := by simpa using hc0
    have hb : (cellIx l line).toNat < l.length := by rcases cellIx_bd l line with h | h <;> omega
    have hml : cellIx l line < l.length := by omega
    have hd := rR_drop_Cell l _ hb
    have hcm : l[(cellIx l line).toNat]? = some l[(cellIx l line).toNat] := List.getElem?_eq_getElem hb
    generalize l[(cellIx l line).toNat] = c at hd hcm
    have hfin : lineS k l line = c.Text := by simp only [lineS, if_pos hp, hcm]
    refine DW.seq ?_
    refine DW.reg (by simp [hml, hd, hp]; rfl) ?_
    refine DW.ret ?_
    simp [Try.results132, hfin]
  · have hp : ¬ 0 ≤ cellIx l line := by simpa using hc0
    have h1 := hnf hp
    have w1 : IntKind.i64.wrap (line * 16) = line * 16 := wr _ (by omega) (by omega)
    have w2 : IntKind.i64.wrap (line + 1) = line + 1 := wr _ (by omega) (by omega)
    have w3 : IntKind.i64.wrap ((line + 1) * 16) = (line + 1) * 16 := wr _ (by omega) (by omega)
    have c1 : 0 ≤ (line + 1) * 16 := by omega
    have c2 : 0 ≤ line * 16 := by omega
    have c3 : line ≤ line + 1 := by omega
    have hfin : lineS k l line = k.extract (line * 16).toNat ((line + 1) * 16).toNat := by simp only [lineS, if_neg hp]
    refine DW.skip ?_
    refine DW.seq ?_
    refine DW.drawn mixed (by kernel_rfl) ?_
    refine RegD.addN 3 (by simp [w1, w2, w3, c1, c2, c3, h1, h0]; (first | done | exact ⟨rfl, rfl⟩ | rfl)) ?_
    refine RegD.cert (Cert.callA rfl (by simp) rfl (by decide) (by simp [w1, w2, w3, c1, c2, c3, h1, h0]; exact ⟨rfl, rfl⟩) (by simp [w1, w2, w3, c1, c2, c3, h1, h0]; rfl) (by exact l10Size_spec) rfl (by simp) (by simp; rfl) rfl) ?_
    refine RegD.addN 3 (by simp [w1, w2, w3, c1, c2, c3, h1, h0]; (first | done | exact ⟨rfl, rfl⟩ | rfl)) ?_
    refine RegD.cert (Cert.callA rfl (by simp) rfl (by decide) (by simp [w1, w2, w3, c1, c2, c3, h1, h0]; exact ⟨rfl, rfl⟩) (by simp [w1, w2, w3, c1, c2, c3, h1, h0]; rfl) (by exact l10Size_spec) rfl (by simp) (by simp; rfl) rfl) ?_
    refine RegD.addN 3 (by simp [w1, w2, w3, c1, c2, c3, h1, h0]; (first | done | exact ⟨rfl, rfl⟩ | rfl)) ?_
    refine RegD.nil ⟨by kernel_rfl, ?_⟩
    refine DW.ret ?_
    simp [Try.results132, hfin]
end Go.Proofs.Ytjjdjkkhhcbogaa.DM
