import Derived.Test.YtjjdjkkhhcbogaaFM3
namespace Go.Proofs.Ytjjdjkkhhcbogaa.DM
set_option linter.unusedVariables false
set_option linter.unusedSimpArgs false
set_option maxRecDepth 4000
set_option maxHeartbeats 8000000
def keepS (k : ByteArray) (c : Cell) : ByteArray := (k.extract 0 (c.Line * 16).toNat ++ c.Text) ++ k.extract (c.Line * 16 + 16).toNat k.size
theorem memOk_all {k : ByteArray} {l : List Cell} (h : memOk k l = true) : k.size % 16 = 0 ∧ k.size ≤ 16000 ∧ ∀ i, i < l.length → okAt k l i = true := by
  simp only [memOk, Bool.and_eq_true, List.all_eq_true, List.mem_range, beq_iff_eq, decide_eq_true_eq] at h
  exact ⟨h.1.2, h.2, h.1.1⟩
theorem okAt_fits {k : ByteArray} {l : List Cell} {i : Nat} (hm : k.size % 16 = 0) (hi : i < l.length) (h : okAt k l i = true) : fitsC k.size l[i] := by
  have hci : l[i]? = some l[i] := List.getElem?_eq_getElem hi
  simp only [okAt, hci, inB, Bool.and_eq_true, decide_eq_true_eq, beq_iff_eq] at h
  obtain ⟨⟨⟨h1, h2⟩, h3⟩, _⟩ := h
  exact ⟨h1, by omega, h3⟩
theorem okAt_lt {k : ByteArray} {l : List Cell} {i : Nat} (hi : i + 1 < l.length) (h : okAt k l (i + 1) = true) : (l[i]'(by omega)).Line < l[i + 1].Line := by
  have hci : l[i + 1]? = some l[i + 1] := List.getElem?_eq_getElem hi
  have hp : l[i]? = some (l[i]'(by omega)) := List.getElem?_eq_getElem (by omega)
  simp [okAt, hci, hp] at h
  omega
theorem memOk_fits {k : ByteArray} {l : List Cell} (h : memOk k l = true) : ∀ c ∈ l, fitsC k.size c := fun c hc => by
  obtain ⟨hm, _, ha⟩ := memOk_all h
  obtain ⟨i, hi, rfl⟩ := List.getElem_of_mem hc
  exact okAt_fits hm hi (ha i hi)
theorem keptS_nil (k : ByteArray) : keptS k [] = k := by simp [keptS, keptB]
theorem keptS_size {k : ByteArray} {l : List Cell} (h : ∀ c ∈ l, fitsC k.size c) : (keptS k l).size = k.size := by
  have := keptB_len l k.data.toList (by rw [show k.data.toList.length = k.size from Array.length_toList]; exact h)
  show (keptB l k.data.toList).toArray.size = _
  rw [List.size_toArray, this]
  exact Array.length_toList
theorem keepS_eq {k : ByteArray} {c : Cell} (h : fitsC k.size c) : keepS k c = ⟨(ovl k.data.toList c).toArray⟩ := by
  obtain ⟨h1, h2, h3⟩ := h
  have hkl : k.data.toList.length = k.size := Array.length_toList
  apply ByteArray.ext
  apply Array.ext'
  have e1 : (c.Line * 16 + 16).toNat = (c.Line * 16).toNat + c.Text.size := by omega
  simp only [keepS, ovl, ByteArray.data_append, ByteArray.data_extract, Array.toList_append, Array.toList_extract, List.extract_eq_take_drop, List.drop_zero, Nat.sub_zero, List.append_assoc, e1]
  congr 2
  rw [List.take_of_length_le]
  rw [List.length_drop]
  omega
theorem keptS_flushed {k : ByteArray} {l : List Cell} {i : Nat} (hi : i < l.length) (hf : ∀ c ∈ l, fitsC k.size c) (hc : l[i].Flushed = true) : keptS k (l.take (i + 1)) = keepS (keptS k (l.take i)) l[i] := by
  have htk : l.take (i + 1) = l.take i ++ [l[i]] := by rw [List.take_add_one, List.getElem?_eq_getElem hi]; rfl
  rw [keepS_eq (by rw [keptS_size fun c hc => hf c (List.mem_of_mem_take hc)]; exact hf _ (List.getElem_mem hi))]
  rw [htk]; generalize l.take i = a; generalize l[i] = c at hc ⊢; simp [keptS, keptB, hc]
theorem keptS_left {k : ByteArray} {l : List Cell} {i : Nat} (hi : i < l.length) (hc : l[i].Flushed = false) : keptS k (l.take (i + 1)) = keptS k (l.take i) := by
  have htk : l.take (i + 1) = l.take i ++ [l[i]] := by rw [List.take_add_one, List.getElem?_eq_getElem hi]; rfl
  rw [htk]; generalize l.take i = a; generalize l[i] = c at hc ⊢; simp [keptS, keptB, hc]
theorem leftC_flushed {l : List Cell} {i : Nat} (hi : i < l.length) (hc : l[i].Flushed = true) : leftC (l.take (i + 1)) = leftC (l.take i) := by
  have htk : l.take (i + 1) = l.take i ++ [l[i]] := by rw [List.take_add_one, List.getElem?_eq_getElem hi]; rfl
  rw [htk]; generalize l.take i = a; generalize l[i] = c at hc ⊢; simp [leftC, hc]
theorem leftC_left {l : List Cell} {i : Nat} (hi : i < l.length) (hc : l[i].Flushed = false) : leftC (l.take (i + 1)) = leftC (l.take i) ++ [l[i]] := by
  have htk : l.take (i + 1) = l.take i ++ [l[i]] := by rw [List.take_add_one, List.getElem?_eq_getElem hi]; rfl
  rw [htk]; generalize l.take i = a; generalize l[i] = c at hc ⊢; simp [leftC, hc]
theorem leftC_len (l : List Cell) (i : Nat) (hi : i ≤ l.length) : (leftC (l.take i)).length ≤ l.length := Nat.le_trans (List.length_filter_le _ _) (by rw [List.length_take]; omega)
theorem take_snoc (l : List Cell) (c : Cell) : List.take ((l.length + 1) * 3) (rD l ++ [.sc (.int .i64 c.Line), .sc (.string c.Text), .sc (.bool c.Flushed)]) = rD l ++ [.sc (.int .i64 c.Line), .sc (.string c.Text), .sc (.bool c.Flushed)] :=
  List.take_of_length_le (by rw [List.length_append, rD_len_Cell]; simp; omega)
@[simp] def dM (m : Memory) : List D := dMem m.Kept m.Cells
def fenceM (m : Memory) : Memory := if memOk m.Kept m.Cells then ⟨keptS m.Kept m.Cells, leftC m.Cells⟩ else m

theorem l10Keep_spec (k : ByteArray) (c : Cell) (hk : k.size < 2 ^ 40) (hf : fitsC k.size c) : Spec Try.prog 99 [rs k, raCell c] [none] [ds (keepS k c)] [rs k, raCell c] := by
  refine Spec.intro Try.func99 rfl rfl Try.ntmps99 rfl (by simp) ?_
  obtain ⟨h1, h2, h3⟩ := hf
  have w1 : IntKind.i64.wrap (c.Line * 16) = c.Line * 16 := wr _ (by omega) (by omega)
  have w2 : IntKind.i64.wrap (c.Line * 16 + 16) = c.Line * 16 + 16 := wr _ (by omega) (by omega)
  have c1 : 0 ≤ c.Line * 16 := by omega
  have c2 : c.Line * 16 ≤ k.size := by omega
  have c3 : 0 ≤ c.Line * 16 + 16 := by omega
  have c4 : c.Line * 16 + 16 ≤ k.size := by omega
  have c5 : ¬ 9223372036854775807 < max (c.Line * 16) 0 + 16 := by omega
  have c6 : ¬ 9223372036854775807 < max (c.Line * 16) 0 + 16 + ((k.size - (c.Line * 16 + 16).toNat : Nat) : Int) := by omega
  refine DW.seq ?_
  refine DW.reg (by simp [w1, w2, c1, c2, c3, c4, c5, c6, h3]; rfl) ?_
  refine DW.seq ?_
  refine DW.drawn mixed (by kernel_rfl) ?_
  refine RegD.addN 2 (by simp [w1, w2, c1, c2, c3, c4, c5, c6, h3]; (first | done | exact ⟨rfl, rfl⟩ | rfl)) ?_
  refine RegD.cert (Cert.callA rfl (by simp) rfl (by decide) (by simp [w1, w2, c1, c2, c3, c4, c5, c6, h3]; exact ⟨rfl, rfl⟩) (by simp [w1, w2, c1, c2, c3, c4, c5, c6, h3]; rfl) (by exact l10Size_spec) rfl (by simp) (by simp; rfl) rfl) ?_
  refine RegD.addN 2 (by simp [w1, w2, c1, c2, c3, c4, c5, c6, h3]; (first | done | exact ⟨rfl, rfl⟩ | rfl)) ?_
  refine RegD.nil ⟨by kernel_rfl, ?_⟩
  refine DW.seq ?_
  refine DW.drawn mixed (by kernel_rfl) ?_
  refine RegD.addN 8 (by simp [w1, w2, c1, c2, c3, c4, c5, c6, h3]; (first | done | exact ⟨rfl, rfl⟩ | rfl)) ?_
  refine RegD.cert (Cert.callA rfl (by simp) rfl (by decide) (by simp [w1, w2, c1, c2, c3, c4, c5, c6, h3]; exact ⟨rfl, rfl⟩) (by simp [w1, w2, c1, c2, c3, c4, c5, c6, h3]; rfl) (by exact l10Size_spec) rfl (by simp) (by simp; rfl) rfl) ?_
  refine RegD.addN 4 (by simp [w1, w2, c1, c2, c3, c4, c5, c6, h3]; (first | done | exact ⟨rfl, rfl⟩ | rfl)) ?_
  refine RegD.nil ⟨by kernel_rfl, ?_⟩
  refine DW.ret ?_
  simp [Try.results99, keepS]
theorem specFence_spec (k : ByteArray) (l : List Cell) (hk : k.size < 2 ^ 40) (hl : l.length < 2 ^ 40) : Spec Try.prog 46 [raMemory ⟨k, l⟩] [some 2] (dM (fenceM ⟨k, l⟩)) [raMemory ⟨k, l⟩] := by
  refine Spec.intro Try.func46 rfl rfl Try.ntmps46 rfl (by simp) ?_
  refine DW.seq ?_
  refine DW.reg (by simp; rfl) ?_
  refine DW.seq ?_
  refine DW.seq ?_
  refine DW.regs ?_
  refine RegO.opN 1 (by simp; rfl) ?_
  refine RegO.step rfl (OpStep.callA rfl (by simp; exact ⟨rfl, rfl⟩) (by simp; rfl) (by exact specOk_spec _ _ hk hl) (by simp) (by simp; rfl)) ?_
  refine RegO.opN 1 (by simp; rfl) ?_
  refine RegO.nil ?_
  refine DW.condB (by simp; exact rfl) (fun hc0 => ?_) (fun hc0 => ?_)
  · have hok : memOk k l = false := by simpa using hc0
    have hres : fenceM ⟨k, l⟩ = ⟨k, l⟩ := by simp [fenceM, hok]
    refine DW.seq ?_
    refine DW.regs ?_
    refine RegO.opN 1 (by simp; rfl) ?_
    refine RegO.step rfl (OpStep.callA rfl (by simp; exact ⟨rfl, rfl⟩) (by simp; rfl) (by exact l10Copy_spec _ _ hl) (by simp) (by simp; rfl)) ?_
    refine RegO.opN 1 (by simp; rfl) ?_
    refine RegO.nil ?_
    refine DW.ret ?_
    simp [Try.results46, hres, rD_len_Cell]
  · have hok : memOk k l = true := by simpa using hc0
    have hres : fenceM ⟨k, l⟩ = ⟨keptS k l, leftC l⟩ := by simp [fenceM, hok]
    have hf := memOk_fits hok
    refine DW.skip ?_
    refine DW.seq ?_
    refine DW.reg (by simp; rfl) ?_
    refine DW.ghost (Ghost.wide 3 [1] 3 (by simp; rfl) (by simp)) ?_
    refine DW.seq ?_
    refine DW.seq ?_
    refine DW.reg (by simp; rfl) ?_
    refine DW.block ?_
    refine DW.loopS (α := Nat) (fun i => i ≤ l.length) (fun i => l.length - i) (fun i => [(4, vi i)]) (fun i => [(3, .ow () 2 1 (dMem (keptS k (l.take i)) (leftC (l.take i))))]) [(1, _), (2, _), (3, _)] [(1, _), (2, _)] [] 0 (Nat.zero_le _) (by simp; exact ⟨rfl, rfl, rfl⟩) (by simp [keptS_nil, leftC]; exact ⟨rfl, rfl⟩) (by simp) (by rfl) ?_
    rintro i hi
    refine DW.seq ?_
    refine DW.seq ?_
    refine DW.reg (by simp; rfl) ?_
    refine DW.condB (by simp; exact rfl) (fun hc1 => ?_) (fun hc1 => ?_)
    · have hlt : i < l.length := by simpa using hc1
      have hlt' : (i : Int) < l.length := by omega
      have hd := rR_drop_Cell l i hlt
      have w1 : IntKind.i64.wrap ((i : Int) + 1) = ((i + 1 : Nat) : Int) := (wr _ (by omega) (by omega)).trans (by omega)
      have hfc := hf _ (List.getElem_mem hlt)
      have hks := keptS_size (k := k) (l := l.take i) fun c hc => hf c (List.mem_of_mem_take hc)
      have hK1 := keptS_flushed (k := k) hlt hf
      have hK2 := keptS_left (k := k) hlt
      have hL1 := leftC_flushed hlt
      have hL2 := leftC_left hlt
      generalize l[i] = c at hd hfc hK1 hK2 hL1 hL2
      have hll := leftC_len l i hi
      have b1 : ((leftC (l.take i)).length + 1) * 32 ≤ 140737488355328 := by omega
      have b2 : (leftC (l.take i)).length + 1 ≤ 140737488355328 := by omega
      have b3 : ((leftC (l.take i)).length + 1) * 3 ≤ (leftC (l.take i)).length * 3 + 3 := by omega
      have hT := take_snoc (leftC (l.take i)) c
      refine DW.skip ?_
      refine DW.seq ?_
      refine DW.block ?_
      refine DW.seq ?_
      refine DW.reg (by simp [hd, hlt']; rfl) ?_
      refine DW.condB (by simp; exact rfl) (fun hc2 => ?_) (fun hc2 => ?_)
      · have hcf : c.Flushed = true := by simpa using hc2
        have hK := hK1 hcf
        have hL := hL1 hcf
        refine DW.drawn mixed (by kernel_rfl) ?_
        refine RegD.addN 7 (by simp [hd, hlt']; first | exact ⟨rfl, rfl⟩ | rfl) ?_
        refine RegD.cert (Cert.callA rfl (by simp) rfl (by decide) (by simp; exact ⟨rfl, rfl⟩) (by simp; rfl) (by exact l10Keep_spec _ c (by rw [hks]; exact hk) (by rw [hks]; exact hfc)) rfl (by simp) (by simp; rfl) rfl) ?_
        refine RegD.addN 1 (by simp [hd, hlt']; first | exact ⟨rfl, rfl⟩ | rfl) ?_
        refine RegD.heavyF (by simp) (by simp; rfl) ?_
        refine RegD.nil ⟨by kernel_rfl, ?_⟩
        refine DW.reg (by simp [w1]; rfl) ?_
        exact ⟨i + 1, hlt, by omega, by simp, by simp [hK, hL, rD_append] <;> rfl, by simp, by rfl⟩
      · have hcf : c.Flushed = false := by simpa using hc2
        have hK := hK2 hcf
        have hL := hL2 hcf
        refine DW.drawn mixed (by kernel_rfl) ?_
        refine RegD.addN 7 (by simp [hd, hlt', b1, b2, b3, hT, rD_len_Cell]; first | exact ⟨rfl, rfl⟩ | rfl) ?_
        refine RegD.cert (Cert.buildRo (rcs := Cell.r c) rfl rfl rfl (by decide) (by simp; exact ⟨rfl, rfl⟩) (by simp; rfl) (by simp; rfl) (by rfl) (by decide) (by decide) (by simp; rfl) (by simp; rfl) (by rfl) (by simp)) ?_
        refine RegD.heavyF (by simp) (by simp [hd, hlt', b1, b2, b3, hT, rD_len_Cell]; rfl) ?_
        refine RegD.addN 1 (by simp [hd, hlt', b1, b2, b3, hT, rD_len_Cell]; first | exact ⟨rfl, rfl⟩ | rfl) ?_
        refine RegD.heavyF (by simp) (by simp [hd, hlt', b1, b2, b3, hT, rD_len_Cell]; rfl) ?_
        refine RegD.nil ⟨by kernel_rfl, ?_⟩
        refine DW.reg (by simp [w1]; rfl) ?_
        exact ⟨i + 1, hlt, by omega, by simp, by simp [hK, hL, rD_append] <;> rfl, by simp, by rfl⟩
    · have hil : i = l.length := by
        have : ¬ i < l.length := by simpa using hc1
        omega
      subst hil
      rw [List.take_length]
      refine DW.exit ?_
      refine DW.seq ?_
      refine DW.reg (by simp; rfl) ?_
      refine DW.ret ?_
      simp [Try.results46, hres, rD_len_Cell]
end Go.Proofs.Ytjjdjkkhhcbogaa.DM
