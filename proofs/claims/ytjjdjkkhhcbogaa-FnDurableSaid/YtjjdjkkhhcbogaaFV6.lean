import Derived.Test.YtjjdjkkhhcbogaaFW16
namespace Go.Proofs.Ytjjdjkkhhcbogaa.DM
set_option linter.unusedVariables false
set_option linter.unusedSimpArgs false
set_option maxRecDepth 4000
set_option maxHeartbeats 8000000
def fzN (p : Int) (k : ByteArray) (l : List Cell) (i : Nat) : ByteArray := ⟨(keptP p (l.zipIdx.take i) k.data.toList).toArray⟩
theorem fzN_zero (p : Int) (k : ByteArray) (l : List Cell) : fzN p k l 0 = k := by simp [fzN, keptP]
theorem fzN_size (p : Int) {k : ByteArray} {l : List Cell} (hf : ∀ c ∈ l, fitsC k.size c) (i : Nat) : (fzN p k l i).size = k.size := by
  have h := keptP_len p (l.zipIdx.take i) k.data.toList (fun c hc => by rw [kb_len]; exact hf c.1 (mem_zip (List.mem_of_mem_take hc)))
  rw [kb_len] at h
  show (keptP p (l.zipIdx.take i) k.data.toList).toArray.size = _
  simpa using h
theorem fzN_take (l : List Cell) (i : Nat) (hi : i < l.length) : l.zipIdx.take (i + 1) = l.zipIdx.take i ++ [(l[i], i)] := by
  rw [List.take_add_one, List.getElem?_eq_getElem (by simpa using hi), List.getElem_zipIdx]
  simp
theorem fzN_bit {p : Int} {k : ByteArray} {l : List Cell} (hf : ∀ c ∈ l, fitsC k.size c) {i : Nat} (hi : i < l.length) (hb : bitP p i = true) : fzN p k l (i + 1) = keepS (fzN p k l i) l[i] := by
  have hs := fzN_size p hf i
  rw [keepS_eq (by rw [hs]; exact hf _ (List.getElem_mem hi))]
  unfold fzN
  rw [fzN_take l i hi, keptP, List.foldl_append]
  simp [keptP, hb]
theorem fzN_no {p : Int} {k : ByteArray} {l : List Cell} {i : Nat} (hi : i < l.length) (hb : bitP p i = false) : fzN p k l (i + 1) = fzN p k l i := by
  unfold fzN
  rw [fzN_take l i hi, keptP, List.foldl_append]
  simp [keptP, hb]
theorem fzN_end {p : Int} {k : ByteArray} {l : List Cell} {i : Nat} (h : l.length ≤ i ∨ 63 ≤ i) : fzN p k l i = keptF p k l := by
  unfold fzN keptF
  congr 2
  have e : l.zipIdx = l.zipIdx.take i ++ l.zipIdx.drop i := (List.take_append_drop _ _).symm
  conv => rhs; rw [e, keptP, List.foldl_append]
  rcases h with h | h
  · rw [List.drop_of_length_le (by simpa using h)]; rfl
  · show _ = List.foldl _ (keptP p (l.zipIdx.take i) k.data.toList) _
    generalize keptP p (l.zipIdx.take i) k.data.toList = kb
    have hall : ∀ c ∈ l.zipIdx.drop i, bitP p c.2 = false := fun c hc => by
      obtain ⟨j, hj, rfl⟩ := List.getElem_of_mem hc
      rw [List.getElem_drop, List.getElem_zipIdx]
      simp only [bitP, Bool.and_eq_false_iff, decide_eq_false_iff_not]
      left; omega
    generalize l.zipIdx.drop i = r at hall
    induction r generalizing kb with
    | nil => rfl
    | cons c r ih =>
      rw [List.foldl_cons, hall c List.mem_cons_self, if_neg (by simp)]
      exact ih kb fun c' hc' => hall c' (List.mem_cons_of_mem _ hc')

theorem specFallen_spec (k : ByteArray) (l : List Cell) (p : Int) (hk : k.size < 2 ^ 40) (hl : l.length < 2 ^ 40) : Spec Try.prog 42 [raMemory ⟨k, l⟩, ri p] [some 2] (dM (fallM ⟨k, l⟩ p)) [raMemory ⟨k, l⟩, ri p] := by
  refine Spec.intro Try.func42 rfl rfl Try.ntmps42 rfl (by simp) ?_
  refine DW.seq ?_
  refine DW.reg (by simp (maxSteps := 200000) (disch := first | omega | (simp; done) | fail) [wrapI, leT, leF, ltT, ltF, eqF, nleT, nleF, nltT, nltF, rD_len_Cell]; rfl) ?_
  refine DW.seq ?_
  refine DW.seq ?_
  have hsp : ((memOk k l) = false) ∨ ((memOk k l) = true ∧ (decide (0 ≤ p)) = false) ∨ ((memOk k l) = true ∧ (decide (0 ≤ p)) = true) := by
    cases (memOk k l) <;> cases (decide (0 ≤ p)) <;> simp
  rcases hsp with g0 | ⟨g0, g1⟩ | ⟨g0, g1⟩
  · have hres : fallM ⟨k, l⟩ p = ⟨k, l⟩ := by simp only [fallM, g0, Bool.and_false, Bool.false_and]; rfl
    rw [hres]
    refine DW.regs ?_
    refine RegO.opN 1 (by simp (maxSteps := 200000) (disch := first | omega | (simp; done) | fail) [wrapI, leT, leF, ltT, ltF, eqF, nleT, nleF, nltT, nltF, rD_len_Cell, g0]; rfl) ?_
    refine RegO.step rfl (OpStep.callA rfl (by simp (maxSteps := 200000) (disch := first | omega | (simp; done) | fail) [wrapI, leT, leF, ltT, ltF, eqF, nleT, nleF, nltT, nltF, rD_len_Cell, g0]; exact ⟨rfl, rfl⟩) (by simp (maxSteps := 200000) (disch := first | omega | (simp; done) | fail) [wrapI, leT, leF, ltT, ltF, eqF, nleT, nleF, nltT, nltF, rD_len_Cell, g0]; rfl) (by exact specOk_spec _ _ hk hl) (by simp) (by simp (maxSteps := 200000) (disch := first | omega | (simp; done) | fail) [wrapI, leT, leF, ltT, ltF, eqF, nleT, nleF, nltT, nltF, rD_len_Cell, g0]; rfl)) ?_
    refine RegO.opN 5 (by simp (maxSteps := 200000) (disch := first | omega | (simp; done) | fail) [wrapI, leT, leF, ltT, ltF, eqF, nleT, nleF, nltT, nltF, rD_len_Cell, g0]; rfl) ?_
    refine RegO.nil ?_
    refine DW.norm [(1, _), (2, _), (4, _), (13, _)] [(2, _), (4, _)] [] (by simp [rD_len_Cell, g0]; exact ⟨rfl, rfl, rfl, rfl⟩) (by simp [rD_len_Cell, g0]; exact ⟨rfl, rfl⟩) (by simp [rD_len_Cell, g0]) (by rfl) ?_
    refine DW.condT (by simp (maxSteps := 200000) (disch := first | omega | (simp; done) | fail) [wrapI, leT, leF, ltT, ltF, eqF, nleT, nleF, nltT, nltF, rD_len_Cell, g0]) ?_
    refine DW.seq ?_
    refine DW.regs ?_
    refine RegO.opN 1 (by simp [rD_len_Cell, g0]; rfl) ?_
    refine RegO.step rfl (OpStep.callA rfl (by simp [rD_len_Cell, g0]; exact ⟨rfl, rfl⟩) (by simp [rD_len_Cell, g0]; rfl) (by exact l10Copy_spec _ _ hl) (by simp) (by simp [rD_len_Cell, g0]; rfl)) ?_
    refine RegO.opN 1 (by simp [rD_len_Cell, g0]; rfl) ?_
    refine RegO.nil ?_
    refine DW.ret ?_
    simp [Try.results42, rD_len_Cell]
  · have hp0 : ¬ 0 ≤ p := by simpa using g1
    have hp1 : p < 0 := by omega
    have hres : fallM ⟨k, l⟩ p = ⟨k, l⟩ := by simp only [fallM, g1, Bool.and_false, Bool.false_and]; rfl
    rw [hres]
    refine DW.regs ?_
    refine RegO.opN 1 (by simp (maxSteps := 200000) (disch := first | omega | (simp; done) | fail) [wrapI, leT, leF, ltT, ltF, eqF, nleT, nleF, nltT, nltF, rD_len_Cell, g0, g1, hp1]; rfl) ?_
    refine RegO.step rfl (OpStep.callA rfl (by simp (maxSteps := 200000) (disch := first | omega | (simp; done) | fail) [wrapI, leT, leF, ltT, ltF, eqF, nleT, nleF, nltT, nltF, rD_len_Cell, g0, g1, hp1]; exact ⟨rfl, rfl⟩) (by simp (maxSteps := 200000) (disch := first | omega | (simp; done) | fail) [wrapI, leT, leF, ltT, ltF, eqF, nleT, nleF, nltT, nltF, rD_len_Cell, g0, g1, hp1]; rfl) (by exact specOk_spec _ _ hk hl) (by simp) (by simp (maxSteps := 200000) (disch := first | omega | (simp; done) | fail) [wrapI, leT, leF, ltT, ltF, eqF, nleT, nleF, nltT, nltF, rD_len_Cell, g0, g1, hp1]; rfl)) ?_
    refine RegO.opN 5 (by simp (maxSteps := 200000) (disch := first | omega | (simp; done) | fail) [wrapI, leT, leF, ltT, ltF, eqF, nleT, nleF, nltT, nltF, rD_len_Cell, g0, g1, hp1]; rfl) ?_
    refine RegO.nil ?_
    refine DW.norm [(1, _), (2, _), (4, _), (13, _)] [(2, _), (4, _)] [] (by simp [rD_len_Cell, g0, g1, hp1]; exact ⟨rfl, rfl, rfl, rfl⟩) (by simp [rD_len_Cell, g0, g1, hp1]; exact ⟨rfl, rfl⟩) (by simp [rD_len_Cell, g0, g1, hp1]) (by rfl) ?_
    refine DW.condT (by simp (maxSteps := 200000) (disch := first | omega | (simp; done) | fail) [wrapI, leT, leF, ltT, ltF, eqF, nleT, nleF, nltT, nltF, rD_len_Cell, g0, g1, hp1]) ?_
    refine DW.seq ?_
    refine DW.regs ?_
    refine RegO.opN 1 (by simp [rD_len_Cell, g0, g1, hp1]; rfl) ?_
    refine RegO.step rfl (OpStep.callA rfl (by simp [rD_len_Cell, g0, g1, hp1]; exact ⟨rfl, rfl⟩) (by simp [rD_len_Cell, g0, g1, hp1]; rfl) (by exact l10Copy_spec _ _ hl) (by simp) (by simp [rD_len_Cell, g0, g1, hp1]; rfl)) ?_
    refine RegO.opN 1 (by simp [rD_len_Cell, g0, g1, hp1]; rfl) ?_
    refine RegO.nil ?_
    refine DW.ret ?_
    simp [Try.results42, rD_len_Cell]
  · have hp0 : 0 ≤ p := by simpa using g1
    have hp1 : ¬ p < 0 := by omega
    have hres : fallM ⟨k, l⟩ p = ⟨keptF p k l, []⟩ := by simp [fallM, g0, hp0]
    rw [hres]
    have hf := memOk_fits g0
    refine DW.regs ?_
    refine RegO.opN 1 (by simp (maxSteps := 200000) (disch := first | omega | (simp; done) | fail) [wrapI, leT, leF, ltT, ltF, eqF, nleT, nleF, nltT, nltF, rD_len_Cell, g0, g1, hp1]; rfl) ?_
    refine RegO.step rfl (OpStep.callA rfl (by simp (maxSteps := 200000) (disch := first | omega | (simp; done) | fail) [wrapI, leT, leF, ltT, ltF, eqF, nleT, nleF, nltT, nltF, rD_len_Cell, g0, g1, hp1]; exact ⟨rfl, rfl⟩) (by simp (maxSteps := 200000) (disch := first | omega | (simp; done) | fail) [wrapI, leT, leF, ltT, ltF, eqF, nleT, nleF, nltT, nltF, rD_len_Cell, g0, g1, hp1]; rfl) (by exact specOk_spec _ _ hk hl) (by simp) (by simp (maxSteps := 200000) (disch := first | omega | (simp; done) | fail) [wrapI, leT, leF, ltT, ltF, eqF, nleT, nleF, nltT, nltF, rD_len_Cell, g0, g1, hp1]; rfl)) ?_
    refine RegO.opN 5 (by simp (maxSteps := 200000) (disch := first | omega | (simp; done) | fail) [wrapI, leT, leF, ltT, ltF, eqF, nleT, nleF, nltT, nltF, rD_len_Cell, g0, g1, hp1]; rfl) ?_
    refine RegO.nil ?_
    refine DW.norm [(1, _), (2, _), (4, _), (13, _)] [(2, _), (4, _)] [] (by simp [rD_len_Cell, g0, g1, hp1]; exact ⟨rfl, rfl, rfl, rfl⟩) (by simp [rD_len_Cell, g0, g1, hp1]; exact ⟨rfl, rfl⟩) (by simp [rD_len_Cell, g0, g1, hp1]) (by rfl) ?_
    refine DW.condF (by simp (maxSteps := 200000) (disch := first | omega | (simp; done) | fail) [wrapI, leT, leF, ltT, ltF, eqF, nleT, nleF, nltT, nltF, rD_len_Cell, g0, g1, hp1]) ?_
    refine DW.skip ?_
    refine DW.seq ?_
    refine DW.reg (by simp [rD_len_Cell, g0, g1, hp1]; rfl) ?_
    refine DW.ghost (Ghost.wide 5 [1] 3 (by simp; rfl) (by simp)) ?_
    refine DW.norm [(1, _), (2, _), (4, _), (5, _)] [(2, _), (4, _), (5, _)] [] (by simp [rD_len_Cell, g0, g1, hp1]; exact ⟨rfl, rfl, rfl, rfl⟩) (by simp [rD_len_Cell, g0, g1, hp1]; exact ⟨rfl, rfl, rfl⟩) (by simp [rD_len_Cell, g0, g1, hp1]) (by rfl) ?_
    refine DW.seq ?_
    refine DW.seq ?_
    refine DW.reg (by simp (maxSteps := 200000) (disch := first | omega | (simp; done) | fail) [wrapI, leT, leF, ltT, ltF, eqF, nleT, nleF, nltT, nltF, rD_len_Cell, g0, g1, hp1]; rfl) ?_
    refine DW.block ?_
    refine DW.loopS (α := Nat) (fun i => i ≤ l.length ∧ i ≤ 63) (fun i => l.length - i) (fun i => [(6, vi i)]) (fun i => [(5, .ow () 2 1 (dMem (fzN p k l i) []))]) [(1, _), (2, _), (4, _), (5, _)] [(2, _), (4, _)] [] 0 (by simp) (by simp; exact ⟨rfl, rfl, rfl, rfl⟩) (by simp [fzN_zero]; exact ⟨rfl, rfl⟩) (by simp) (by rfl) ?_
    rintro i ⟨hi, hi63⟩
    refine DW.seq ?_
    refine DW.seq ?_
    have hsp : ((i : Int) < l.length ∧ (i : Int) < 63) ∨ ¬ ((i : Int) < l.length) ∨ ((i : Int) < l.length ∧ ¬ (i : Int) < 63) := by omega
    rcases hsp with ⟨h0, h1⟩ | h0 | ⟨h0, h1⟩
    · have hlt : i < l.length := by omega
      have hd := rR_drop_Cell l i hlt
      have hw := wr ((i : Int) + 1) (by omega) (by omega)
      have hu : IntKind.u64.wrap (i : Int) = (i : Int) := by simp [IntKind.wrap, IntKind.bits, IntKind.signed]; omega
      have hfc := hf _ (List.getElem_mem hlt)
      have hks := fzN_size p hf i
      have hK1 := fzN_bit (p := p) hf hlt
      have hK2 := fzN_no (p := p) (k := k) hlt
      generalize l[i] = c at hd hfc hK1 hK2
      have h62 : (i : Int) ≤ 62 := by omega
      refine DW.reg (by simp (maxSteps := 200000) (disch := first | omega | (simp; done) | fail) [wrapI, leT, leF, ltT, ltF, eqF, nleT, nleF, nltT, nltF, rD_len_Cell, g0, g1, hp1, h0, h1, hd, hw, hu]; rfl) ?_
      refine DW.condT (by simp (maxSteps := 200000) (disch := first | omega | (simp; done) | fail) [wrapI, leT, leF, ltT, ltF, eqF, nleT, nleF, nltT, nltF, rD_len_Cell, g0, g1, hp1, h0, h1, hd, hw, hu]) ?_
      refine DW.skip ?_
      refine DW.seq ?_
      refine DW.block ?_
      refine DW.seq ?_
      refine DW.reg (by simp (maxSteps := 200000) (disch := first | omega | (simp; done) | fail) [wrapI, leT, leF, ltT, ltF, eqF, nleT, nleF, nltT, nltF, rD_len_Cell, g0, g1, hp1, h0, h1, hd, hw, hu]; rfl) ?_
      refine DW.condB (by simp (maxSteps := 200000) (disch := first | omega | (simp; done) | fail) [wrapI, leT, leF, ltT, ltF, eqF, nleT, nleF, nltT, nltF, rD_len_Cell, g0, g1, hp1, h0, h1, hd, hw, hu]; exact rfl) (fun hc2 => ?_) (fun hc2 => ?_)
      · have hb : bitP p i = true := by simp only [bitP, h62, decide_true, Bool.true_and]; simpa using hc2
        have hK := hK1 hb
        refine DW.drawn mixed (by kernel_rfl) ?_
        refine RegD.addN 7 (by simp [rD_len_Cell, g0, g1, hp1, h0, h1, hd, hw, hu]; first | exact ⟨rfl, rfl⟩ | rfl) ?_
        refine RegD.cert (Cert.callA rfl (by simp) rfl (by decide) (by simp; exact ⟨rfl, rfl⟩) (by simp; rfl) (by exact l10Keep_spec _ c (by rw [hks]; exact hk) (by rw [hks]; exact hfc)) rfl (by simp) (by simp; rfl) rfl) ?_
        refine RegD.addN 1 (by simp [rD_len_Cell, g0, g1, hp1, h0, h1, hd, hw, hu]; first | exact ⟨rfl, rfl⟩ | rfl) ?_
        refine RegD.heavyF (by simp) (by simp; rfl) ?_
        refine RegD.nil ⟨by kernel_rfl, ?_⟩
        refine DW.norm [(1, _), (2, _), (4, _), (5, _), (6, _)] [(2, _), (4, _), (5, _)] [] (by simp [rD_len_Cell, g0, g1, hp1, h0, h1, hd, hw, hu]; exact ⟨rfl, rfl, rfl, rfl, rfl⟩) (by simp [rD_len_Cell, g0, g1, hp1, h0, h1, hd, hw, hu]; exact ⟨rfl, rfl, rfl⟩) (by simp [rD_len_Cell, g0, g1, hp1, h0, h1, hd, hw, hu]) (by rfl) ?_
        refine DW.reg (by simp (maxSteps := 200000) (disch := first | omega | (simp; done) | fail) [wrapI, leT, leF, ltT, ltF, eqF, nleT, nleF, nltT, nltF, rD_len_Cell, g0, g1, hp1, h0, h1, hd, hw, hu]; rfl) ?_
        exact ⟨i + 1, ⟨by omega, by omega⟩, by omega, by simp, by simp [hK], by simp, by rfl⟩
      · have hb : bitP p i = false := by simp only [bitP, h62, decide_true, Bool.true_and]; simpa using hc2
        have hK := hK2 hb
        refine DW.skip ?_
        refine DW.reg (by simp (maxSteps := 200000) (disch := first | omega | (simp; done) | fail) [wrapI, leT, leF, ltT, ltF, eqF, nleT, nleF, nltT, nltF, rD_len_Cell, g0, g1, hp1, h0, h1, hd, hw, hu]; rfl) ?_
        exact ⟨i + 1, ⟨by omega, by omega⟩, by omega, by simp, by simp [hK], by simp, by rfl⟩
    · rw [← fzN_end (p := p) (k := k) (l := l) (i := i) (by omega)]
      refine DW.reg (by simp (maxSteps := 200000) (disch := first | omega | (simp; done) | fail) [wrapI, leT, leF, ltT, ltF, eqF, nleT, nleF, nltT, nltF, rD_len_Cell, g0, g1, hp1, h0]; rfl) ?_
      refine DW.condF (by simp (maxSteps := 200000) (disch := first | omega | (simp; done) | fail) [wrapI, leT, leF, ltT, ltF, eqF, nleT, nleF, nltT, nltF, rD_len_Cell, g0, g1, hp1, h0]) ?_
      refine DW.exit ?_
      refine DW.seq ?_
      refine DW.reg (by simp [rD_len_Cell, g0, g1, hp1, h0]; rfl) ?_
      refine DW.ret ?_
      simp [Try.results42, rD_len_Cell]
    · rw [← fzN_end (p := p) (k := k) (l := l) (i := i) (by omega)]
      refine DW.reg (by simp (maxSteps := 200000) (disch := first | omega | (simp; done) | fail) [wrapI, leT, leF, ltT, ltF, eqF, nleT, nleF, nltT, nltF, rD_len_Cell, g0, g1, hp1, h0, h1]; rfl) ?_
      refine DW.condF (by simp (maxSteps := 200000) (disch := first | omega | (simp; done) | fail) [wrapI, leT, leF, ltT, ltF, eqF, nleT, nleF, nltT, nltF, rD_len_Cell, g0, g1, hp1, h0, h1]) ?_
      refine DW.exit ?_
      refine DW.seq ?_
      refine DW.reg (by simp [rD_len_Cell, g0, g1, hp1, h0, h1]; rfl) ?_
      refine DW.ret ?_
      simp [Try.results42, rD_len_Cell]
end Go.Proofs.Ytjjdjkkhhcbogaa.DM
