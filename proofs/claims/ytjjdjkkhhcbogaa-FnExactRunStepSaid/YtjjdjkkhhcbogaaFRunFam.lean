import Derived.Test.YtjjdjkkhhcbogaaFData
namespace Go.Proofs.Ytjjdjkkhhcbogaa.DM
set_option linter.unusedVariables false
set_option linter.unusedSimpArgs false
set_option maxRecDepth 4000
set_option maxHeartbeats 8000000
theorem markText_spec (k1 : Int) (h0 : 0 < k1) (h1 : k1 < 4611686018427387904) : Spec Try.prog 75 [ri k1] [none] [ds (mt k1)] [ri k1] := by
  refine Spec.intro Try.func75 rfl rfl Try.ntmps75 rfl (by simp) ?_
  obtain ⟨k0, rfl⟩ := Int.eq_ofNat_of_zero_le (show 0 ≤ k1 by omega)
  have h0n : ¬ (k0 : Int) ≤ 0 := by omega
  have h0m : ¬ k0 = 0 := by omega
  refine DW.seq ?_
  refine DW.reg (by simp; rfl) ?_
  refine DW.seq ?_
  refine DW.seq ?_
  refine DW.reg (by simp [h0n, h0m]; rfl) ?_
  refine DW.condF (by simp [h0n, h0m]) ?_
  refine DW.skip ?_
  refine DW.seq ?_
  refine DW.reg (by simp; rfl) ?_
  refine DW.seq ?_
  refine DW.block ?_
  refine DW.loopS (α := Nat × ByteArray) (fun p => p.1 ≤ k0 ∧ mtB p.1 p.2 = mtB k0 ByteArray.empty ∧ p.2.size + p.1 ≤ k0) (fun p => p.1) (fun p => [(0, vi p.1), (3, vs p.2)]) (fun p => []) [] [] [] (k0, ByteArray.empty) (⟨Nat.le_refl _, rfl, by simp⟩) (by simp) (by simp) (by simp) (by rfl) ?_
  rintro ⟨k, acc⟩ ⟨hk, hm, hs⟩
  simp only at hk hm hs ⊢
  refine DW.seq ?_
  refine DW.seq ?_
  refine DW.reg (by simp; rfl) ?_
  refine DW.condB (by simp; exact rfl) (fun hc1 => ?_) (fun hc1 => ?_)
  · have hp : 0 < k := by simpa using hc1
    have wd : IntKind.i64.wrap (48 + (k : Int).tmod 10) = ((48 + k % 10 : Nat) : Int) := by
      have e : (k : Int).tmod 10 = ((k % 10 : Nat) : Int) := by rw [Int.tmod_eq_emod_of_nonneg (by omega)]; omega
      rw [e, wr _ (by omega) (by omega)]; omega
    have hu : IntKind.u8.wrap (48 + (k : Int) % 10) = ((dg k).toNat : Int) := by
      have e1 : (dg k).toNat = 48 + k % 10 := by unfold dg; simp; omega
      rw [e1]; simp [IntKind.wrap, IntKind.bits, IntKind.signed]; omega
    have hz : (⟨#[dg k]⟩ ++ acc : ByteArray).size + k / 10 ≤ k0 := by rw [ByteArray.size_append]; show 1 + acc.size + k / 10 ≤ _; omega
    have hsz : ¬ ((9223372036854775807 : Int) < ((⟨#[dg k]⟩ : ByteArray).size : Int) + acc.size) := by show ¬ ((9223372036854775807 : Int) < ((1 : Nat) : Int) + acc.size); omega
    have hq : IntKind.i64.wrap ((k : Int) / 10) = (k : Int) / 10 := wr _ (by omega) (by omega)
    refine DW.skip ?_
    refine DW.block ?_
    refine DW.seq ?_
    refine DW.regs ?_
    refine RegO.opN 5 (by simp [wd]; rfl) ?_
    refine RegO.step rfl (OpStep.bytesStr (n := 1) (l := [dg k]) rfl rfl (by decide) (by simp; rfl) (by simp) (by simp) (by simp [rowLen]) (by simp [hu]; exact ⟨rfl, rfl⟩)) ?_
    refine RegO.opN 3 (by simp [hsz]; rfl) ?_
    refine RegO.nil ?_
    refine DW.reg (by simp [hq]; rfl) ?_
    exact ⟨(k / 10, ⟨#[dg k]⟩ ++ acc), ⟨by omega, by rw [← hm]; conv => rhs; rw [mtB, dif_pos hp], hz⟩, by simp; omega, by simp [hq], by simp, by simp, by rfl⟩
  · have hk0 : k = 0 := by
      have : ¬ 0 < k := by simpa using hc1
      omega
    subst hk0
    rw [mtB, dif_neg (by omega)] at hm
    have hsz : ¬ ((9223372036854775807 : Int) < ((⟨#[109]⟩ : ByteArray).size : Int) + acc.size) := by show ¬ ((9223372036854775807 : Int) < ((1 : Nat) : Int) + acc.size); omega
    refine DW.exit ?_
    refine DW.seq ?_
    refine DW.reg (by simp [hsz]; rfl) ?_
    refine DW.ret ?_
    simp [Try.results75, mt, ← hm]
theorem szCell_spec (a : Cell) (left : Int) (h0 : 0 ≤ left) (h1 : left ≤ 1099511627776) (ho : Row.ok 281474976710656 a) : Spec Try.prog 119 [raCell a, ri left] [none] [di (szr (left - (Row.sz a : Int)))] [raCell a, ri left] := by
  refine Spec.intro Try.func119 rfl rfl Try.ntmps119 rfl (by simp) ?_
  have hz := Cell_sz a
  rw [Cell_ok] at ho
  obtain ⟨_, o0⟩ := ho
  have w0 : IntKind.i64.wrap (left - (a.Text.size : Int)) = left - (a.Text.size : Int) := wr _ (by omega) (by omega)
  refine DW.seq ?_
  refine DW.reg (by simp [w0]; rfl) ?_
  refine DW.seq ?_
  refine DW.reg (by simp [w0]; rfl) ?_
  refine DW.seq ?_
  refine DW.seq ?_
  refine DW.reg (by simp [w0]; rfl) ?_
  refine DW.condB (by simp [w0]; exact rfl) (fun hc0 => ?_) (fun hc0 => ?_)
  · have q0 : True := trivial
    have w1 : True := trivial
    have hn0 : left - (a.Text.size : Int) < 0 := by simpa using hc0
    have hr : szr (left - (Row.sz a : Int)) = -1 := szr_neg (by omega)
    refine DW.seq ?_
    refine DW.reg (by simp [q0, w0]; rfl) ?_
    refine DW.ret ?_
    simp [Try.results119, hr]
  · have hn0 : ¬ (left - (a.Text.size : Int) < 0) := by simpa using hc0
    have q0 : szr (left - (a.Text.size : Int)) = left - (a.Text.size : Int) := szr_pos (by omega)
    have hr : szr (left - (Row.sz a : Int)) = left - (a.Text.size : Int) := by rw [szr_pos (by omega)]; omega
    refine DW.skip ?_
    refine DW.seq ?_
    refine DW.reg (by simp [q0, w0]; rfl) ?_
    refine DW.ret ?_
    simp [Try.results119, hr]
theorem szCellS_spec (l : List Cell) (left : Int) (h0 : 0 ≤ left) (h1 : left ≤ 1099511627776) (ho : okL 281474976710656 l) : Spec Try.prog 65 [ra l, ri left] [none] [di (szr (left - (szL l : Int)))] [ra l, ri left] := by
  refine Spec.intro Try.func65 rfl rfl Try.ntmps65 rfl (by simp) ?_
  have hll := szL_len l
  have hl := ho.1
  have w0 : IntKind.i64.wrap (left - (l.length : Int)) = left - (l.length : Int) := wr _ (by omega) (by omega)
  refine DW.seq ?_
  refine DW.reg (by simp [w0]; rfl) ?_
  refine DW.seq ?_
  refine DW.reg (by simp [w0]; rfl) ?_
  refine DW.seq ?_
  refine DW.seq ?_
  refine DW.reg (by simp [w0]; rfl) ?_
  refine DW.condB (by simp [w0]; exact rfl) (fun hc0 => ?_) (fun hc0 => ?_)
  · have hn : left - (l.length : Int) < 0 := by simpa using hc0
    have hr : szr (left - (szL l : Int)) = -1 := szr_neg (by omega)
    refine DW.seq ?_
    refine DW.reg (by simp [w0]; rfl) ?_
    refine DW.ret ?_
    simp [Try.results65, hr]
  · have hn : ¬ (left - (l.length : Int) < 0) := by simpa using hc0
    refine DW.skip ?_
    refine DW.seq ?_
    refine DW.seq ?_
    refine DW.reg (by simp [w0]; rfl) ?_
    refine DW.block ?_
    refine DW.loopS (α := Nat) (fun i => i ≤ l.length ∧ 0 ≤ (left - (l.length : Int) + (i : Int) - (szL (l.take i) : Int))) (fun i => l.length - i) (fun i => [(5, vi i), (1, vi (left - (l.length : Int) + (i : Int) - (szL (l.take i) : Int)))]) (fun i => []) [(0, _)] [] [] 0 (⟨by omega, by simp; omega⟩) (by simp; exact rfl) (by simp) (by simp) (by rfl) ?_
    intro i hi
    obtain ⟨hi, hp⟩ := hi
    refine DW.seq ?_
    refine DW.seq ?_
    refine DW.reg (by simp [w0]; rfl) ?_
    refine DW.condB (by simp [w0]; exact rfl) (fun hc1 => ?_) (fun hc1 => ?_)
    · have hlt : i < l.length := by simpa using hc1
      have hd := rR_drop_Cell l i hlt
      have hs := szL_at l i hlt
      have hst := szL_take l i hlt
      have hdl := szL_len (l.drop (i + 1))
      rw [List.length_drop] at hdl
      have hoc := okL_at ho i hlt
      have hlt' : (i : Int) < l.length := by omega
      have w1 : IntKind.i64.wrap ((i : Int) + 1) = ((i + 1 : Nat) : Int) := (wr _ (by omega) (by omega)).trans (by omega)
      generalize l[i] = c at hd hs hst hoc
      refine DW.skip ?_
      refine DW.seq ?_
      refine DW.block ?_
      refine DW.seq ?_
      refine DW.regs ?_
      refine RegO.opN 5 (by simp [w0, hd, hlt']; rfl) ?_
      refine RegO.step rfl (OpStep.callA rfl (by simp [w0, hd, hlt']; exact ⟨rfl, rfl⟩) (by simp [w0, hd, hlt']; rfl) (by exact szCell_spec _ _ (by omega) (by omega) hoc) (by simp) (by simp [w0, hd, hlt']; rfl)) ?_
      refine RegO.opN 1 (by simp [w0, hd, hlt']; rfl) ?_
      refine RegO.nil ?_
      refine DW.seq ?_
      refine DW.reg (by simp [w0]; rfl) ?_
      refine DW.condB (by simp [w0]; exact rfl) (fun hc2 => ?_) (fun hc2 => ?_)
      · have hn : (left - (l.length : Int) + (i : Int) - (szL (l.take i) : Int)) - (Row.sz c : Int) < 0 := by simpa using hc2
        have hr : szr (left - (szL l : Int)) = -1 := szr_neg (by omega)
        refine DW.seq ?_
        refine DW.reg (by simp [w0]; rfl) ?_
        refine DW.ret ?_
        simp [Try.results65, hr]
      · have hn : ¬ ((left - (l.length : Int) + (i : Int) - (szL (l.take i) : Int)) - (Row.sz c : Int) < 0) := by simpa using hc2
        have hq : szr ((left - (l.length : Int) + (i : Int) - (szL (l.take i) : Int)) - (Row.sz c : Int)) = (left - (l.length : Int) + ((i + 1 : Nat) : Int) - (szL (l.take (i + 1)) : Int)) := by rw [szr_pos (by omega)]; omega
        refine DW.skip ?_
        refine DW.reg (by simp [w0, w1, hq]; rfl) ?_
        exact ⟨i + 1, ⟨hlt, by omega⟩, by omega, by simp [hq], by simp, by simp, by rfl⟩
    · have hil : i = l.length := by
        have : ¬ i < l.length := by simpa using hc1
        omega
      subst hil
      rw [List.take_length] at hp
      have hr : szr (left - (szL l : Int)) = left - (l.length : Int) + (l.length : Int) - (szL l : Int) := by rw [szr_pos (by omega)]; omega
      refine DW.exit ?_
      refine DW.seq ?_
      refine DW.reg (by simp [w0]; rfl) ?_
      refine DW.ret ?_
      simp [Try.results65, hr]
theorem szMemory_spec (a : Memory) (left : Int) (h0 : 0 ≤ left) (h1 : left ≤ 1099511627776) (ho : Row.ok 281474976710656 a) : Spec Try.prog 9 [raMemory a, ri left] [none] [di (szr (left - (Row.sz a : Int)))] [raMemory a, ri left] := by
  refine Spec.intro Try.func9 rfl rfl Try.ntmps9 rfl (by simp) ?_
  have hz := Memory_sz a
  rw [Memory_ok] at ho
  obtain ⟨o0, o1⟩ := ho
  have w0 : IntKind.i64.wrap (left - (a.Kept.size : Int)) = left - (a.Kept.size : Int) := wr _ (by omega) (by omega)
  refine DW.seq ?_
  refine DW.reg (by simp [w0]; rfl) ?_
  refine DW.seq ?_
  refine DW.reg (by simp [w0]; rfl) ?_
  refine DW.seq ?_
  refine DW.seq ?_
  refine DW.reg (by simp [w0]; rfl) ?_
  refine DW.condB (by simp [w0]; exact rfl) (fun hc0 => ?_) (fun hc0 => ?_)
  · have q0 : True := trivial
    have w1 : True := trivial
    have hn0 : left - (a.Kept.size : Int) < 0 := by simpa using hc0
    have hr : szr (left - (Row.sz a : Int)) = -1 := szr_neg (by omega)
    refine DW.seq ?_
    refine DW.reg (by simp [q0, w0]; rfl) ?_
    refine DW.ret ?_
    simp [Try.results9, hr]
  · have hn0 : ¬ (left - (a.Kept.size : Int) < 0) := by simpa using hc0
    have q0 : szr (left - (a.Kept.size : Int)) = left - (a.Kept.size : Int) := szr_pos (by omega)
    refine DW.skip ?_
    refine DW.seq ?_
    refine DW.regs ?_
    refine RegO.opN 3 (by simp [q0, w0]; rfl) ?_
    refine RegO.step rfl (OpStep.callA rfl (by simp [q0, w0]; exact ⟨rfl, rfl⟩) (by simp [q0, w0]; rfl) (by exact szCellS_spec _ _ (by omega) (by omega) o1) (by simp) (by simp [q0, w0]; rfl)) ?_
    refine RegO.opN 1 (by simp [q0, w0]; rfl) ?_
    refine RegO.nil ?_
    refine DW.seq ?_
    refine DW.seq ?_
    refine DW.reg (by simp [q0, w0]; rfl) ?_
    refine DW.condB (by simp [q0, w0]; exact rfl) (fun hc1 => ?_) (fun hc1 => ?_)
    · have q1 : True := trivial
      have w2 : True := trivial
      have hn1 : left - (a.Kept.size : Int) - (szL a.Cells : Int) < 0 := by simpa using hc1
      have hr : szr (left - (Row.sz a : Int)) = -1 := szr_neg (by omega)
      refine DW.seq ?_
      refine DW.reg (by simp [q0, q1, w0]; rfl) ?_
      refine DW.ret ?_
      simp [Try.results9, hr]
    · have hn1 : ¬ (left - (a.Kept.size : Int) - (szL a.Cells : Int) < 0) := by simpa using hc1
      have q1 : szr (left - (a.Kept.size : Int) - (szL a.Cells : Int)) = left - (a.Kept.size : Int) - (szL a.Cells : Int) := szr_pos (by omega)
      have hr : szr (left - (Row.sz a : Int)) = left - (a.Kept.size : Int) - (szL a.Cells : Int) := by rw [szr_pos (by omega)]; omega
      refine DW.skip ?_
      refine DW.seq ?_
      refine DW.reg (by simp [q0, q1, w0]; rfl) ?_
      refine DW.ret ?_
      simp [Try.results9, hr]
theorem szStep_spec (a : Step) (left : Int) (h0 : 0 ≤ left) (h1 : left ≤ 1099511627776) (ho : Row.ok 281474976710656 a) : Spec Try.prog 10 [raStep a, ri left] [none] [di (szr (left - (Row.sz a : Int)))] [raStep a, ri left] := by
  refine Spec.intro Try.func10 rfl rfl Try.ntmps10 rfl (by simp) ?_
  have hz := Step_sz a
  rw [Step_ok] at ho
  obtain ⟨_, _, o0⟩ := ho
  have w0 : IntKind.i64.wrap (left - (a.Word.size : Int)) = left - (a.Word.size : Int) := wr _ (by omega) (by omega)
  refine DW.seq ?_
  refine DW.reg (by simp [w0]; rfl) ?_
  refine DW.seq ?_
  refine DW.reg (by simp [w0]; rfl) ?_
  refine DW.seq ?_
  refine DW.seq ?_
  refine DW.reg (by simp [w0]; rfl) ?_
  refine DW.condB (by simp [w0]; exact rfl) (fun hc0 => ?_) (fun hc0 => ?_)
  · have q0 : True := trivial
    have w1 : True := trivial
    have hn0 : left - (a.Word.size : Int) < 0 := by simpa using hc0
    have hr : szr (left - (Row.sz a : Int)) = -1 := szr_neg (by omega)
    refine DW.seq ?_
    refine DW.reg (by simp [q0, w0]; rfl) ?_
    refine DW.ret ?_
    simp [Try.results10, hr]
  · have hn0 : ¬ (left - (a.Word.size : Int) < 0) := by simpa using hc0
    have q0 : szr (left - (a.Word.size : Int)) = left - (a.Word.size : Int) := szr_pos (by omega)
    have hr : szr (left - (Row.sz a : Int)) = left - (a.Word.size : Int) := by rw [szr_pos (by omega)]; omega
    refine DW.skip ?_
    refine DW.seq ?_
    refine DW.reg (by simp [q0, w0]; rfl) ?_
    refine DW.ret ?_
    simp [Try.results10, hr]
theorem szStepS_spec (l : List Step) (left : Int) (h0 : 0 ≤ left) (h1 : left ≤ 1099511627776) (ho : okL 281474976710656 l) : Spec Try.prog 18 [ra l, ri left] [none] [di (szr (left - (szL l : Int)))] [ra l, ri left] := by
  refine Spec.intro Try.func18 rfl rfl Try.ntmps18 rfl (by simp) ?_
  have hll := szL_len l
  have hl := ho.1
  have w0 : IntKind.i64.wrap (left - (l.length : Int)) = left - (l.length : Int) := wr _ (by omega) (by omega)
  refine DW.seq ?_
  refine DW.reg (by simp [w0]; rfl) ?_
  refine DW.seq ?_
  refine DW.reg (by simp [w0]; rfl) ?_
  refine DW.seq ?_
  refine DW.seq ?_
  refine DW.reg (by simp [w0]; rfl) ?_
  refine DW.condB (by simp [w0]; exact rfl) (fun hc0 => ?_) (fun hc0 => ?_)
  · have hn : left - (l.length : Int) < 0 := by simpa using hc0
    have hr : szr (left - (szL l : Int)) = -1 := szr_neg (by omega)
    refine DW.seq ?_
    refine DW.reg (by simp [w0]; rfl) ?_
    refine DW.ret ?_
    simp [Try.results18, hr]
  · have hn : ¬ (left - (l.length : Int) < 0) := by simpa using hc0
    refine DW.skip ?_
    refine DW.seq ?_
    refine DW.seq ?_
    refine DW.reg (by simp [w0]; rfl) ?_
    refine DW.block ?_
    refine DW.loopS (α := Nat) (fun i => i ≤ l.length ∧ 0 ≤ (left - (l.length : Int) + (i : Int) - (szL (l.take i) : Int))) (fun i => l.length - i) (fun i => [(5, vi i), (1, vi (left - (l.length : Int) + (i : Int) - (szL (l.take i) : Int)))]) (fun i => []) [(0, _)] [] [] 0 (⟨by omega, by simp; omega⟩) (by simp; exact rfl) (by simp) (by simp) (by rfl) ?_
    intro i hi
    obtain ⟨hi, hp⟩ := hi
    refine DW.seq ?_
    refine DW.seq ?_
    refine DW.reg (by simp [w0]; rfl) ?_
    refine DW.condB (by simp [w0]; exact rfl) (fun hc1 => ?_) (fun hc1 => ?_)
    · have hlt : i < l.length := by simpa using hc1
      have hd := rR_drop_Step l i hlt
      have hs := szL_at l i hlt
      have hst := szL_take l i hlt
      have hdl := szL_len (l.drop (i + 1))
      rw [List.length_drop] at hdl
      have hoc := okL_at ho i hlt
      have hlt' : (i : Int) < l.length := by omega
      have w1 : IntKind.i64.wrap ((i : Int) + 1) = ((i + 1 : Nat) : Int) := (wr _ (by omega) (by omega)).trans (by omega)
      generalize l[i] = c at hd hs hst hoc
      refine DW.skip ?_
      refine DW.seq ?_
      refine DW.block ?_
      refine DW.seq ?_
      refine DW.regs ?_
      refine RegO.opN 5 (by simp [w0, hd, hlt']; rfl) ?_
      refine RegO.step rfl (OpStep.callA rfl (by simp [w0, hd, hlt']; exact ⟨rfl, rfl⟩) (by simp [w0, hd, hlt']; rfl) (by exact szStep_spec _ _ (by omega) (by omega) hoc) (by simp) (by simp [w0, hd, hlt']; rfl)) ?_
      refine RegO.opN 1 (by simp [w0, hd, hlt']; rfl) ?_
      refine RegO.nil ?_
      refine DW.seq ?_
      refine DW.reg (by simp [w0]; rfl) ?_
      refine DW.condB (by simp [w0]; exact rfl) (fun hc2 => ?_) (fun hc2 => ?_)
      · have hn : (left - (l.length : Int) + (i : Int) - (szL (l.take i) : Int)) - (Row.sz c : Int) < 0 := by simpa using hc2
        have hr : szr (left - (szL l : Int)) = -1 := szr_neg (by omega)
        refine DW.seq ?_
        refine DW.reg (by simp [w0]; rfl) ?_
        refine DW.ret ?_
        simp [Try.results18, hr]
      · have hn : ¬ ((left - (l.length : Int) + (i : Int) - (szL (l.take i) : Int)) - (Row.sz c : Int) < 0) := by simpa using hc2
        have hq : szr ((left - (l.length : Int) + (i : Int) - (szL (l.take i) : Int)) - (Row.sz c : Int)) = (left - (l.length : Int) + ((i + 1 : Nat) : Int) - (szL (l.take (i + 1)) : Int)) := by rw [szr_pos (by omega)]; omega
        refine DW.skip ?_
        refine DW.reg (by simp [w0, w1, hq]; rfl) ?_
        exact ⟨i + 1, ⟨hlt, by omega⟩, by omega, by simp [hq], by simp, by simp, by rfl⟩
    · have hil : i = l.length := by
        have : ¬ i < l.length := by simpa using hc1
        omega
      subst hil
      rw [List.take_length] at hp
      have hr : szr (left - (szL l : Int)) = left - (l.length : Int) + (l.length : Int) - (szL l : Int) := by rw [szr_pos (by omega)]; omega
      refine DW.exit ?_
      refine DW.seq ?_
      refine DW.reg (by simp [w0]; rfl) ?_
      refine DW.ret ?_
      simp [Try.results18, hr]
theorem toCell_spec (a : Cell) (h : Row.sz a ≤ 2 ^ 36) : Spec Try.prog 121 [raCell a] [some 3] (Cell.d a) [raCell a] := by
  refine Spec.intro Try.func121 rfl rfl Try.ntmps121 rfl (by simp) ?_
  have hz := Cell_sz a
  refine DW.seq ?_
  refine DW.reg (by simp; rfl) ?_
  refine DW.seq ?_
  refine DW.reg (by simp; rfl) ?_
  refine DW.seq ?_
  refine DW.reg (by simp; rfl) ?_
  refine DW.seq ?_
  refine DW.reg (by simp; rfl) ?_
  refine DW.seq ?_
  refine DW.reg (by simp; rfl) ?_
  refine DW.seq ?_
  refine DW.reg (by simp; rfl) ?_
  refine DW.ret ?_
  simp [Try.results121]
theorem toCellS_spec (l : List Cell) (h : szL l ≤ 2 ^ 36) : Spec Try.prog 68 [ra l] [none] [dr l] [ra l] := by
  refine Spec.intro Try.func68 rfl rfl Try.ntmps68 rfl (by simp) ?_
  have hll := szL_len l
  have hb1 : (32 : Int) * l.length ≤ 281474976710656 := by omega
  have hb2 : (l.length : Int) ≤ 281474976710656 := by omega
  refine DW.seq ?_
  refine DW.reg (by simp; rfl) ?_
  refine DW.seq ?_
  refine DW.reg (by simp [hb1, hb2]; rfl) ?_
  refine DW.seq ?_
  refine DW.seq ?_
  refine DW.reg (by simp; rfl) ?_
  refine DW.block ?_
  refine DW.loopS (α := Nat) (fun i => i ≤ l.length) (fun i => l.length - i) (fun i => [(4, vi i)]) (fun i => [(7, .ow () 3 l.length (rD (l.take i) ++ (List.replicate (l.length - i) ([.sc (.int .i64 0), .sc (.string ByteArray.empty), .sc (.bool false)] : List D)).flatten))]) [(0, _), (3, _)] [] [] 0 (by simp) (by simp; exact ⟨rfl, rfl⟩) (by simp) (by simp) (by rfl) ?_
  intro i hi
  refine DW.seq ?_
  refine DW.seq ?_
  refine DW.reg (by simp; rfl) ?_
  refine DW.condB (by simp; exact rfl) (fun hc0 => ?_) (fun hc0 => ?_)
  · have hlt : i < l.length := by simpa using hc0
    have hd := rR_drop_Cell l i hlt
    have hs := szL_at l i hlt
    have hlt' : (i : Int) < l.length := by omega
    have w1 : IntKind.i64.wrap ((i : Int) + 1) = ((i + 1 : Nat) : Int) := (wr _ (by omega) (by omega)).trans (by omega)
    have hA : (rD (l.take i)).length = i * 3 := by rw [rD_len_Cell, List.length_take, Nat.min_eq_left (by omega)]
    have hz1 : (List.replicate (l.length - i) ([.sc (.int .i64 0), .sc (.string ByteArray.empty), .sc (.bool false)] : List D)).flatten = [.sc (.int .i64 0), .sc (.string ByteArray.empty), .sc (.bool false)] ++ (List.replicate (l.length - (i + 1)) ([.sc (.int .i64 0), .sc (.string ByteArray.empty), .sc (.bool false)] : List D)).flatten := by rw [show l.length - i = (l.length - (i + 1)) + 1 by omega, List.replicate_succ, List.flatten_cons]
    have hz2 : rD (l.take (i + 1)) = rD (l.take i) ++ Row.d l[i] := by rw [take_succ' l i hlt, rD_append]; simp [rD]
    simp only [Row.d] at hz2
    generalize l[i] = c at hd hs hz2
    refine DW.skip ?_
    refine DW.seq ?_
    refine DW.block ?_
    refine DW.regs ?_
    refine RegO.opN 6 (by simp [hd, hlt', hz1, app_get hA, app_get0 hA, app_set hA, app_set0 hA, Nat.add_assoc]; rfl) ?_
    refine RegO.step rfl (OpStep.callA rfl (by simp [hd, hlt', hz1, app_get hA, app_get0 hA, app_set hA, app_set0 hA, Nat.add_assoc]; exact ⟨rfl, rfl⟩) (by simp [hd, hlt', hz1, app_get hA, app_get0 hA, app_set hA, app_set0 hA, Nat.add_assoc]; rfl) (by exact toCell_spec _ (by omega)) (by simp) (by simp [hd, hlt', hz1, app_get hA, app_get0 hA, app_set hA, app_set0 hA, Nat.add_assoc]; rfl)) ?_
    refine RegO.opN 2 (by simp [hd, hlt', hz1, app_get hA, app_get0 hA, app_set hA, app_set0 hA, Nat.add_assoc]; rfl) ?_
    refine RegO.nil ?_
    refine DW.reg (by simp [w1]; rfl) ?_
    exact ⟨i + 1, hlt, by omega, by simp, by simp [hz2], by simp, by rfl⟩
  · have hil : i = l.length := by
      have : ¬ i < l.length := by simpa using hc0
      omega
    subst hil
    refine DW.exit ?_
    refine DW.seq ?_
    refine DW.reg (by simp; rfl) ?_
    refine DW.ret ?_
    simp [Try.results68]
theorem toMemory_spec (a : Memory) (h : Row.sz a ≤ 2 ^ 36) : Spec Try.prog 12 [raMemory a] [some 2] (Memory.d a) [raMemory a] := by
  refine Spec.intro Try.func12 rfl rfl Try.ntmps12 rfl (by simp) ?_
  have hz := Memory_sz a
  refine DW.seq ?_
  refine DW.reg (by simp; rfl) ?_
  refine DW.seq ?_
  refine DW.reg (by simp; rfl) ?_
  refine DW.seq ?_
  refine DW.reg (by simp; rfl) ?_
  refine DW.seq ?_
  refine DW.regs ?_
  refine RegO.opN 2 (by simp; rfl) ?_
  refine RegO.step rfl (OpStep.callA rfl (by simp; exact ⟨rfl, rfl⟩) (by simp; rfl) (by exact toCellS_spec _ (by omega)) (by simp) (by simp; rfl)) ?_
  refine RegO.opN 2 (by simp; rfl) ?_
  refine RegO.nil ?_
  refine DW.seq ?_
  refine DW.reg (by simp; rfl) ?_
  refine DW.ret ?_
  simp [Try.results12]
theorem toStep_spec (a : Step) (h : Row.sz a ≤ 2 ^ 36) : Spec Try.prog 13 [raStep a] [some 3] (Step.d a) [raStep a] := by
  refine Spec.intro Try.func13 rfl rfl Try.ntmps13 rfl (by simp) ?_
  have hz := Step_sz a
  refine DW.seq ?_
  refine DW.reg (by simp; rfl) ?_
  refine DW.seq ?_
  refine DW.reg (by simp; rfl) ?_
  refine DW.seq ?_
  refine DW.reg (by simp; rfl) ?_
  refine DW.seq ?_
  refine DW.reg (by simp; rfl) ?_
  refine DW.seq ?_
  refine DW.reg (by simp; rfl) ?_
  refine DW.seq ?_
  refine DW.reg (by simp; rfl) ?_
  refine DW.ret ?_
  simp [Try.results13]
theorem toStepS_spec (l : List Step) (h : szL l ≤ 2 ^ 36) : Spec Try.prog 20 [ra l] [none] [dr l] [ra l] := by
  refine Spec.intro Try.func20 rfl rfl Try.ntmps20 rfl (by simp) ?_
  have hll := szL_len l
  have hb1 : (32 : Int) * l.length ≤ 281474976710656 := by omega
  have hb2 : (l.length : Int) ≤ 281474976710656 := by omega
  refine DW.seq ?_
  refine DW.reg (by simp; rfl) ?_
  refine DW.seq ?_
  refine DW.reg (by simp [hb1, hb2]; rfl) ?_
  refine DW.seq ?_
  refine DW.seq ?_
  refine DW.reg (by simp; rfl) ?_
  refine DW.block ?_
  refine DW.loopS (α := Nat) (fun i => i ≤ l.length) (fun i => l.length - i) (fun i => [(4, vi i)]) (fun i => [(7, .ow () 3 l.length (rD (l.take i) ++ (List.replicate (l.length - i) ([.sc (.int .i64 0), .sc (.int .i64 0), .sc (.string ByteArray.empty)] : List D)).flatten))]) [(0, _), (3, _)] [] [] 0 (by simp) (by simp; exact ⟨rfl, rfl⟩) (by simp) (by simp) (by rfl) ?_
  intro i hi
  refine DW.seq ?_
  refine DW.seq ?_
  refine DW.reg (by simp; rfl) ?_
  refine DW.condB (by simp; exact rfl) (fun hc0 => ?_) (fun hc0 => ?_)
  · have hlt : i < l.length := by simpa using hc0
    have hd := rR_drop_Step l i hlt
    have hs := szL_at l i hlt
    have hlt' : (i : Int) < l.length := by omega
    have w1 : IntKind.i64.wrap ((i : Int) + 1) = ((i + 1 : Nat) : Int) := (wr _ (by omega) (by omega)).trans (by omega)
    have hA : (rD (l.take i)).length = i * 3 := by rw [rD_len_Step, List.length_take, Nat.min_eq_left (by omega)]
    have hz1 : (List.replicate (l.length - i) ([.sc (.int .i64 0), .sc (.int .i64 0), .sc (.string ByteArray.empty)] : List D)).flatten = [.sc (.int .i64 0), .sc (.int .i64 0), .sc (.string ByteArray.empty)] ++ (List.replicate (l.length - (i + 1)) ([.sc (.int .i64 0), .sc (.int .i64 0), .sc (.string ByteArray.empty)] : List D)).flatten := by rw [show l.length - i = (l.length - (i + 1)) + 1 by omega, List.replicate_succ, List.flatten_cons]
    have hz2 : rD (l.take (i + 1)) = rD (l.take i) ++ Row.d l[i] := by rw [take_succ' l i hlt, rD_append]; simp [rD]
    simp only [Row.d] at hz2
    generalize l[i] = c at hd hs hz2
    refine DW.skip ?_
    refine DW.seq ?_
    refine DW.block ?_
    refine DW.regs ?_
    refine RegO.opN 6 (by simp [hd, hlt', hz1, app_get hA, app_get0 hA, app_set hA, app_set0 hA, Nat.add_assoc]; rfl) ?_
    refine RegO.step rfl (OpStep.callA rfl (by simp [hd, hlt', hz1, app_get hA, app_get0 hA, app_set hA, app_set0 hA, Nat.add_assoc]; exact ⟨rfl, rfl⟩) (by simp [hd, hlt', hz1, app_get hA, app_get0 hA, app_set hA, app_set0 hA, Nat.add_assoc]; rfl) (by exact toStep_spec _ (by omega)) (by simp) (by simp [hd, hlt', hz1, app_get hA, app_get0 hA, app_set hA, app_set0 hA, Nat.add_assoc]; rfl)) ?_
    refine RegO.opN 2 (by simp [hd, hlt', hz1, app_get hA, app_get0 hA, app_set hA, app_set0 hA, Nat.add_assoc]; rfl) ?_
    refine RegO.nil ?_
    refine DW.reg (by simp [w1]; rfl) ?_
    exact ⟨i + 1, hlt, by omega, by simp, by simp [hz2], by simp, by rfl⟩
  · have hil : i = l.length := by
      have : ¬ i < l.length := by simpa using hc0
      omega
    subst hil
    refine DW.exit ?_
    refine DW.seq ?_
    refine DW.reg (by simp; rfl) ?_
    refine DW.ret ?_
    simp [Try.results20]
theorem eqCell_spec (a : Cell) (h : Row.sz a ≤ 2 ^ 36) : Spec Try.prog 122 [raCell a, raCell a] [none] [db true] [raCell a, raCell a] := by
  refine Spec.intro Try.func122 rfl rfl Try.ntmps122 rfl (by simp) ?_
  have hz := Cell_sz a
  refine DW.seq ?_
  refine DW.reg (by simp; rfl) ?_
  refine DW.seq ?_
  refine DW.seq ?_
  refine DW.reg (by simp; rfl) ?_
  refine DW.condF (by simp) ?_
  refine DW.skip ?_
  refine DW.seq ?_
  refine DW.seq ?_
  refine DW.reg (by simp; rfl) ?_
  refine DW.condF (by simp) ?_
  refine DW.skip ?_
  refine DW.seq ?_
  refine DW.seq ?_
  refine DW.reg (by simp; rfl) ?_
  refine DW.condF (by simp) ?_
  refine DW.skip ?_
  refine DW.seq ?_
  refine DW.reg (by simp; rfl) ?_
  refine DW.ret ?_
  simp [Try.results122]
theorem eqCellS_spec (l : List Cell) (h : szL l ≤ 2 ^ 36) : Spec Try.prog 69 [ra l, ra l] [none] [db true] [ra l, ra l] := by
  refine Spec.intro Try.func69 rfl rfl Try.ntmps69 rfl (by simp) ?_
  have hll := szL_len l
  refine DW.seq ?_
  refine DW.reg (by simp; rfl) ?_
  refine DW.seq ?_
  refine DW.seq ?_
  refine DW.reg (by simp; rfl) ?_
  refine DW.condF (by simp) ?_
  refine DW.skip ?_
  refine DW.seq ?_
  refine DW.seq ?_
  refine DW.reg (by simp; rfl) ?_
  refine DW.block ?_
  refine DW.loopS (α := Nat) (fun i => i ≤ l.length) (fun i => l.length - i) (fun i => [(5, vi i)]) (fun i => []) [(0, _), (1, _)] [] [] 0 (by simp) (by simp; exact ⟨rfl, rfl⟩) (by simp) (by simp) (by rfl) ?_
  intro i hi
  refine DW.seq ?_
  refine DW.seq ?_
  refine DW.reg (by simp; rfl) ?_
  refine DW.condB (by simp; exact rfl) (fun hc1 => ?_) (fun hc1 => ?_)
  · have hlt : i < l.length := by simpa using hc1
    have hd := rR_drop_Cell l i hlt
    have hs := szL_at l i hlt
    have hlt' : (i : Int) < l.length := by omega
    have w1 : IntKind.i64.wrap ((i : Int) + 1) = ((i + 1 : Nat) : Int) := (wr _ (by omega) (by omega)).trans (by omega)
    generalize l[i] = c at hd hs
    refine DW.skip ?_
    refine DW.seq ?_
    refine DW.block ?_
    refine DW.seq ?_
    refine DW.drawn mixed (by kernel_rfl) ?_
    refine RegD.addN 8 (by simp [hd, hlt']; first | exact ⟨rfl, rfl⟩ | rfl) ?_
    refine RegD.cert (Cert.callA rfl (by simp) rfl (by decide) (by simp [hd, hlt']; exact ⟨rfl, rfl⟩) (by simp [hd, hlt']; rfl) (by exact eqCell_spec _ (by omega)) rfl (by simp) (by simp; rfl) rfl) ?_
    refine RegD.addN 1 (by simp [hd, hlt']; first | exact ⟨rfl, rfl⟩ | rfl) ?_
    refine RegD.nil ⟨by kernel_rfl, ?_⟩
    refine DW.condF (by simp) ?_
    refine DW.skip ?_
    refine DW.reg (by simp [w1]; rfl) ?_
    exact ⟨i + 1, hlt, by omega, by simp, by simp, by simp, by rfl⟩
  · refine DW.exit ?_
    refine DW.seq ?_
    refine DW.reg (by simp; rfl) ?_
    refine DW.ret ?_
    simp [Try.results69]
theorem eqMemory_spec (a : Memory) (h : Row.sz a ≤ 2 ^ 36) : Spec Try.prog 15 [raMemory a, raMemory a] [none] [db true] [raMemory a, raMemory a] := by
  refine Spec.intro Try.func15 rfl rfl Try.ntmps15 rfl (by simp) ?_
  have hz := Memory_sz a
  refine DW.seq ?_
  refine DW.reg (by simp; rfl) ?_
  refine DW.seq ?_
  refine DW.seq ?_
  refine DW.reg (by simp; rfl) ?_
  refine DW.condF (by simp) ?_
  refine DW.skip ?_
  refine DW.seq ?_
  refine DW.seq ?_
  refine DW.regs ?_
  refine RegO.opN 4 (by simp; rfl) ?_
  refine RegO.step rfl (OpStep.callA rfl (by simp; exact ⟨rfl, rfl⟩) (by simp; rfl) (by exact eqCellS_spec _ (by omega)) (by simp) (by simp; rfl)) ?_
  refine RegO.opN 1 (by simp; rfl) ?_
  refine RegO.nil ?_
  refine DW.condF (by simp) ?_
  refine DW.skip ?_
  refine DW.seq ?_
  refine DW.reg (by simp; rfl) ?_
  refine DW.ret ?_
  simp [Try.results15]
theorem eqStep_spec (a : Step) (h : Row.sz a ≤ 2 ^ 36) : Spec Try.prog 74 [raStep a, raStep a] [none] [db true] [raStep a, raStep a] := by
  refine Spec.intro Try.func74 rfl rfl Try.ntmps74 rfl (by simp) ?_
  have hz := Step_sz a
  refine DW.seq ?_
  refine DW.reg (by simp; rfl) ?_
  refine DW.seq ?_
  refine DW.seq ?_
  refine DW.reg (by simp; rfl) ?_
  refine DW.condF (by simp) ?_
  refine DW.skip ?_
  refine DW.seq ?_
  refine DW.seq ?_
  refine DW.reg (by simp; rfl) ?_
  refine DW.condF (by simp) ?_
  refine DW.skip ?_
  refine DW.seq ?_
  refine DW.seq ?_
  refine DW.reg (by simp; rfl) ?_
  refine DW.condF (by simp) ?_
  refine DW.skip ?_
  refine DW.seq ?_
  refine DW.reg (by simp; rfl) ?_
  refine DW.ret ?_
  simp [Try.results74]
theorem eqStepS_spec (l : List Step) (h : szL l ≤ 2 ^ 36) : Spec Try.prog 22 [ra l, ra l] [none] [db true] [ra l, ra l] := by
  refine Spec.intro Try.func22 rfl rfl Try.ntmps22 rfl (by simp) ?_
  have hll := szL_len l
  refine DW.seq ?_
  refine DW.reg (by simp; rfl) ?_
  refine DW.seq ?_
  refine DW.seq ?_
  refine DW.reg (by simp; rfl) ?_
  refine DW.condF (by simp) ?_
  refine DW.skip ?_
  refine DW.seq ?_
  refine DW.seq ?_
  refine DW.reg (by simp; rfl) ?_
  refine DW.block ?_
  refine DW.loopS (α := Nat) (fun i => i ≤ l.length) (fun i => l.length - i) (fun i => [(5, vi i)]) (fun i => []) [(0, _), (1, _)] [] [] 0 (by simp) (by simp; exact ⟨rfl, rfl⟩) (by simp) (by simp) (by rfl) ?_
  intro i hi
  refine DW.seq ?_
  refine DW.seq ?_
  refine DW.reg (by simp; rfl) ?_
  refine DW.condB (by simp; exact rfl) (fun hc1 => ?_) (fun hc1 => ?_)
  · have hlt : i < l.length := by simpa using hc1
    have hd := rR_drop_Step l i hlt
    have hs := szL_at l i hlt
    have hlt' : (i : Int) < l.length := by omega
    have w1 : IntKind.i64.wrap ((i : Int) + 1) = ((i + 1 : Nat) : Int) := (wr _ (by omega) (by omega)).trans (by omega)
    generalize l[i] = c at hd hs
    refine DW.skip ?_
    refine DW.seq ?_
    refine DW.block ?_
    refine DW.seq ?_
    refine DW.drawn mixed (by kernel_rfl) ?_
    refine RegD.addN 8 (by simp [hd, hlt']; first | exact ⟨rfl, rfl⟩ | rfl) ?_
    refine RegD.cert (Cert.callA rfl (by simp) rfl (by decide) (by simp [hd, hlt']; exact ⟨rfl, rfl⟩) (by simp [hd, hlt']; rfl) (by exact eqStep_spec _ (by omega)) rfl (by simp) (by simp; rfl) rfl) ?_
    refine RegD.addN 1 (by simp [hd, hlt']; first | exact ⟨rfl, rfl⟩ | rfl) ?_
    refine RegD.nil ⟨by kernel_rfl, ?_⟩
    refine DW.condF (by simp) ?_
    refine DW.skip ?_
    refine DW.reg (by simp [w1]; rfl) ?_
    exact ⟨i + 1, hlt, by omega, by simp, by simp, by simp, by rfl⟩
  · refine DW.exit ?_
    refine DW.seq ?_
    refine DW.reg (by simp; rfl) ?_
    refine DW.ret ?_
    simp [Try.results22]
theorem markCellS_spec (l : List Cell) (k : Int) (h0 : 0 < k) (h1 : k + (ctL l : Int) ≤ 1152921504606846976) (h : szL l ≤ 2 ^ 36) : Spec Try.prog 70 [.one (.m 3 l.length (rD l)), ri k] [none] [di (k + (ctL l : Int))] [.one (.m 3 l.length (rD (mkL l k))), ri k] := by
  refine Spec.intro Try.func70 rfl rfl Try.ntmps70 rfl (by simp) ?_
  have hll := szL_len l
  refine DW.seq ?_
  refine DW.reg (by simp; rfl) ?_
  refine DW.seq ?_
  refine DW.seq ?_
  refine DW.reg (by simp; rfl) ?_
  refine DW.block ?_
  refine DW.loopS (α := Nat × Int) (fun p => p.1 ≤ l.length ∧ p.2 = k + (ctL (l.take p.1) : Int)) (fun p => l.length - p.1) (fun p => [(5, vi p.1), (1, vi p.2)]) (fun p => [(0, .hold [.ow () 3 l.length (rD (mkL (l.take p.1) k) ++ rD (l.drop p.1))])]) [(0, _)] [] [(0, .sl 0 [0] 0 l.length)] (0, k) (⟨Nat.zero_le _, by simp⟩) (by simp; exact rfl) (by simp) (by simp) (by rfl) ?_
  rintro ⟨i, K⟩ ⟨hi, hK⟩
  simp only at hi hK ⊢
  refine DW.seq ?_
  refine DW.seq ?_
  refine DW.reg (by simp; rfl) ?_
  refine DW.condB (by simp; exact rfl) (fun hc0 => ?_) (fun hc0 => ?_)
  · have hlt : i < l.length := by simpa using hc0
    have hd := rD_dropc l i hlt
    have hs := szL_at l i hlt
    have hct := ctL_take l i hlt
    have hca := ctL_at l i hlt
    have hm := mkL_take l i k hlt
    replace hm := congrArg rD hm
    rw [rD_append, ← hK] at hm
    have hlt' : (i : Int) < l.length := by omega
    have w1 : IntKind.i64.wrap ((i : Int) + 1) = ((i + 1 : Nat) : Int) := (wr _ (by omega) (by omega)).trans (by omega)
    have hA : (rD (mkL (l.take i) k)).length = i * 3 := by rw [rD_len_Cell, mkL_len, List.length_take, Nat.min_eq_left (by omega)]
    generalize l[i] = c at hd hs hct hca hm
    have hcc := Cell_ct c
    have hcs := Cell_sz c
    rw [Cell_mk] at hm
    replace hm : rD (mkL (l.take (i + 1)) k) = rD (mkL (l.take i) k) ++ Cell.d _ := hm.trans (by simp only [rD, List.flatMap_cons, List.flatMap_nil, List.append_nil]; rfl)
    replace hd : rD (l.drop i) = Cell.d c ++ rD (l.drop (i + 1)) := hd
    have t0 : 0 < K ∧ K < 4611686018427387904 := ⟨by omega, by omega⟩
    have t1 : 0 < K + 1 ∧ K + 1 < 4611686018427387904 := ⟨by omega, by omega⟩
    have t2 : 0 < K + 2 ∧ K + 2 < 4611686018427387904 := ⟨by omega, by omega⟩
    obtain ⟨v1, v2, v3⟩ : IntKind.i64.wrap (K + 1) = K + 1 ∧ IntKind.i64.wrap (K + 1 + 1) = K + 2 ∧ IntKind.i64.wrap (K + 2 + 1) = K + 3 := ⟨(wr _ (by omega) (by omega)).trans (by omega), (wr _ (by omega) (by omega)).trans (by omega), (wr _ (by omega) (by omega)).trans (by omega)⟩
    refine DW.skip ?_
    refine DW.seq ?_
    refine DW.block ?_
    refine DW.seq ?_
    refine DW.reg (by simp [hd, hlt', app_get hA, app_get0 hA, app_set hA, app_set0 hA, Nat.add_assoc]; rfl) ?_
    refine DW.seq ?_
    refine DW.reg (by simp [v1]; rfl) ?_
    refine DW.seq ?_
    refine DW.regs ?_
    refine RegO.opN 3 (by simp [hd, hlt', app_get hA, app_get0 hA, app_set hA, app_set0 hA, Nat.add_assoc]; rfl) ?_
    refine RegO.step rfl (OpStep.callA rfl (by simp [hd, hlt', app_get hA, app_get0 hA, app_set hA, app_set0 hA, Nat.add_assoc]; exact ⟨rfl, rfl⟩) (by simp [hd, hlt', app_get hA, app_get0 hA, app_set hA, app_set0 hA, Nat.add_assoc]; rfl) (by exact markText_spec _ t1.1 t1.2) (by simp) (by simp [hd, hlt', app_get hA, app_get0 hA, app_set hA, app_set0 hA, Nat.add_assoc]; rfl)) ?_
    refine RegO.opN 3 (by simp [hd, hlt', app_get hA, app_get0 hA, app_set hA, app_set0 hA, Nat.add_assoc]; rfl) ?_
    refine RegO.nil ?_
    refine DW.seq ?_
    refine DW.reg (by simp [v2]; rfl) ?_
    refine DW.seq ?_
    refine DW.reg (by simp [hd, hlt', app_get hA, app_get0 hA, app_set hA, app_set0 hA, Nat.add_assoc]; rfl) ?_
    refine DW.reg (by simp [v3]; rfl) ?_
    refine DW.reg (by simp [w1]; rfl) ?_
    clear v1 v2 v3
    exact ⟨(i + 1, K + 3), ⟨hlt, by simp only; omega⟩, by simp only; omega, by simp, by simp [hm, mb], by simp, by rfl⟩
  · have hil : i = l.length := by
      have : ¬ i < l.length := by simpa using hc0
      omega
    subst hil
    rw [List.take_length] at hK
    refine DW.exit ?_
    refine DW.seq ?_
    refine DW.reg (by simp; rfl) ?_
    refine DW.ret ?_
    simp [Try.results70, hK]
theorem markCellS_spec0 (k : Int) : Spec Try.prog 70 [.one (.r (.sl 0 [])), ri k] [none] [di k] [.one (.r (.sl 0 [])), ri k] := by
  refine Spec.intro Try.func70 rfl rfl Try.ntmps70 rfl (by simp) ?_
  refine DW.seq ?_
  refine DW.reg (by simp; rfl) ?_
  refine DW.seq ?_
  refine DW.seq ?_
  refine DW.reg (by simp; rfl) ?_
  refine DW.block ?_
  refine DW.loopS (α := Nat) (fun p => True) (fun p => p) (fun p => [(5, vi 0), (1, vi k)]) (fun p => []) [(0, _)] [] [] 0 (trivial) (by simp; exact rfl) (by simp) (by simp) (by rfl) ?_
  rintro p -
  refine DW.seq ?_
  refine DW.seq ?_
  refine DW.reg (by simp; rfl) ?_
  refine DW.condF (by simp) ?_
  refine DW.exit ?_
  refine DW.seq ?_
  refine DW.reg (by simp; rfl) ?_
  refine DW.ret ?_
  simp [Try.results70]
theorem markMemory_spec (a : Memory) (k : Int) (h0 : 0 < k) (h1 : k + (Memory.ctT a : Int) ≤ 1152921504606846976) (h : Row.sz a ≤ 2 ^ 36) : Spec Try.prog 16 [maMemory a, ri k] [none] [di (k + (Memory.ctT a : Int))] [maMemory (Memory.mkT a k), ri k] := by
  refine Spec.intro Try.func16 rfl rfl Try.ntmps16 rfl (by simp) ?_
  have hz := Memory_sz a
  have hT : Memory.ctT a = ctL a.Cells := by simp only [Memory.mkT, Memory.ctT]
  have u0 : 0 < k ∧ k + (ctL a.Cells : Int) ≤ 1152921504606846976 ∧ szL a.Cells ≤ 2 ^ 36 := ⟨by omega, by omega, by omega⟩
  have hTT : k + (Memory.ctT a : Int) = k + (ctL a.Cells : Int) := by omega
  obtain ⟨a_Kept, a_Cells⟩ := a
  simp only at *
  rcases nil_or_pos' a_Cells with ⟨m0, n0, e0, p0, rfl⟩ | ⟨m0, n0, e0, p0, -⟩
  all_goals
    refine DW.ghost (Ghost.empty 0) ?_
    refine DW.seq ?_
    refine DW.regs ?_
    refine RegO.step rfl (OpStep.boxR rfl rfl (by decide) (by simp [m0, n0, e0, p0]; rfl) (by simp [m0, n0, e0, p0]; first | exact ⟨rfl, rfl⟩ | rfl) (by simp) (by simp)) ?_
    refine RegO.opN 1 (by simp; rfl) ?_
    refine RegO.nil ?_
    first
      | refine DW.norm [(1, _), (2, _)] [(0, _), (2, _)] [(1, _)] (by simp [m0, n0, e0, p0]; exact ⟨rfl, rfl⟩) (by simp [m0, n0, e0, p0]; exact ⟨rfl, rfl⟩) (by simp [m0, n0, e0, p0]; rfl) (by rfl) ?_
      | refine DW.norm [(1, _), (2, _)] [(2, _)] [] (by simp [m0, n0, e0, p0]; exact ⟨rfl, rfl⟩) (by simp [m0, n0, e0, p0]; rfl) (by simp [m0, n0, e0, p0]) (by rfl) ?_
    refine DW.seq ?_
    refine DW.regs ?_
    refine RegO.opN 3 (by simp [m0, n0, e0, p0]; rfl) ?_
    first
      | (refine RegO.step rfl (OpStep.callL (io := 0) rfl (by simp [m0, n0, e0, p0]; rfl) (markCellS_spec _ _ u0.1 u0.2.1 u0.2.2) (by rfl) (by rfl) (by rfl) (by rfl) (by simp [lendL, FS.lend, m0, n0, e0, p0]; exact ⟨rfl, rfl⟩) (by simp [apartP]) (by simp) (by simp [m0, n0, e0, p0]; rfl) (by simp [rosOk]) (by simp) (by simp [backFS, hBack, pzsC, pzS, paCells, PC.tree, m0, n0, e0, p0]; rfl)) ?_)
      | refine RegO.step rfl (OpStep.callA rfl (by simp [m0, n0, e0, p0]; exact ⟨rfl, rfl⟩) (by simp [m0, n0, e0, p0]; rfl) (by exact markCellS_spec0 _) (by simp) (by simp [m0, n0, e0, p0]; rfl)) ?_
    refine RegO.opN 1 (by simp [m0, n0, e0, p0]; rfl) ?_
    refine RegO.nil ?_
    first
      | refine DW.norm [(1, _), (2, _)] [(0, _), (2, _)] [(1, _)] (by simp [m0, n0, e0, p0]; exact ⟨rfl, rfl⟩) (by simp [m0, n0, e0, p0]; exact ⟨rfl, rfl⟩) (by simp [m0, n0, e0, p0]; rfl) (by rfl) ?_
      | refine DW.norm [(1, _), (2, _)] [(2, _)] [] (by simp [m0, n0, e0, p0]; exact ⟨rfl, rfl⟩) (by simp [m0, n0, e0, p0]; rfl) (by simp [m0, n0, e0, p0]) (by rfl) ?_
    refine DW.seq ?_
    refine DW.reg (by simp [m0, n0, e0, p0]; rfl) ?_
    try (refine DW.ghost ((Ghost.move (id := 2) (id' := 1001) (p := [1]) (by simp; rfl) (by simp [m0, n0, e0, p0]; first | exact ⟨rfl, rfl, rfl⟩ | rfl) (by simp)).trans (Ghost.plant 1001 0 1 (by simp [m0, n0, e0, p0]; first | exact ⟨rfl, rfl, rfl⟩ | rfl) (by simp; rfl) (by simp))) ?_)
    refine DW.ret ?_
    simp [Try.results16, hTT, Memory.mkT, m0, n0, e0, p0]
theorem markStepS_spec (l : List Step) (k : Int) (h0 : 0 < k) (h1 : k + (ctL l : Int) ≤ 1152921504606846976) (h : szL l ≤ 2 ^ 36) : Spec Try.prog 23 [.one (.m 3 l.length (rD l)), ri k] [none] [di (k + (ctL l : Int))] [.one (.m 3 l.length (rD (mkL l k))), ri k] := by
  refine Spec.intro Try.func23 rfl rfl Try.ntmps23 rfl (by simp) ?_
  have hll := szL_len l
  refine DW.seq ?_
  refine DW.reg (by simp; rfl) ?_
  refine DW.seq ?_
  refine DW.seq ?_
  refine DW.reg (by simp; rfl) ?_
  refine DW.block ?_
  refine DW.loopS (α := Nat × Int) (fun p => p.1 ≤ l.length ∧ p.2 = k + (ctL (l.take p.1) : Int)) (fun p => l.length - p.1) (fun p => [(5, vi p.1), (1, vi p.2)]) (fun p => [(0, .hold [.ow () 3 l.length (rD (mkL (l.take p.1) k) ++ rD (l.drop p.1))])]) [(0, _)] [] [(0, .sl 0 [0] 0 l.length)] (0, k) (⟨Nat.zero_le _, by simp⟩) (by simp; exact rfl) (by simp) (by simp) (by rfl) ?_
  rintro ⟨i, K⟩ ⟨hi, hK⟩
  simp only at hi hK ⊢
  refine DW.seq ?_
  refine DW.seq ?_
  refine DW.reg (by simp; rfl) ?_
  refine DW.condB (by simp; exact rfl) (fun hc0 => ?_) (fun hc0 => ?_)
  · have hlt : i < l.length := by simpa using hc0
    have hd := rD_dropc l i hlt
    have hs := szL_at l i hlt
    have hct := ctL_take l i hlt
    have hca := ctL_at l i hlt
    have hm := mkL_take l i k hlt
    replace hm := congrArg rD hm
    rw [rD_append, ← hK] at hm
    have hlt' : (i : Int) < l.length := by omega
    have w1 : IntKind.i64.wrap ((i : Int) + 1) = ((i + 1 : Nat) : Int) := (wr _ (by omega) (by omega)).trans (by omega)
    have hA : (rD (mkL (l.take i) k)).length = i * 3 := by rw [rD_len_Step, mkL_len, List.length_take, Nat.min_eq_left (by omega)]
    generalize l[i] = c at hd hs hct hca hm
    have hcc := Step_ct c
    have hcs := Step_sz c
    rw [Step_mk] at hm
    replace hm : rD (mkL (l.take (i + 1)) k) = rD (mkL (l.take i) k) ++ Step.d _ := hm.trans (by simp only [rD, List.flatMap_cons, List.flatMap_nil, List.append_nil]; rfl)
    replace hd : rD (l.drop i) = Step.d c ++ rD (l.drop (i + 1)) := hd
    have t0 : 0 < K ∧ K < 4611686018427387904 := ⟨by omega, by omega⟩
    have t1 : 0 < K + 1 ∧ K + 1 < 4611686018427387904 := ⟨by omega, by omega⟩
    have t2 : 0 < K + 2 ∧ K + 2 < 4611686018427387904 := ⟨by omega, by omega⟩
    obtain ⟨v1, v2, v3⟩ : IntKind.i64.wrap (K + 1) = K + 1 ∧ IntKind.i64.wrap (K + 1 + 1) = K + 2 ∧ IntKind.i64.wrap (K + 2 + 1) = K + 3 := ⟨(wr _ (by omega) (by omega)).trans (by omega), (wr _ (by omega) (by omega)).trans (by omega), (wr _ (by omega) (by omega)).trans (by omega)⟩
    refine DW.skip ?_
    refine DW.seq ?_
    refine DW.block ?_
    refine DW.seq ?_
    refine DW.reg (by simp [hd, hlt', app_get hA, app_get0 hA, app_set hA, app_set0 hA, Nat.add_assoc]; rfl) ?_
    refine DW.seq ?_
    refine DW.reg (by simp [v1]; rfl) ?_
    refine DW.seq ?_
    refine DW.reg (by simp [hd, hlt', app_get hA, app_get0 hA, app_set hA, app_set0 hA, Nat.add_assoc]; rfl) ?_
    refine DW.seq ?_
    refine DW.reg (by simp [v2]; rfl) ?_
    refine DW.seq ?_
    refine DW.regs ?_
    refine RegO.opN 3 (by simp [hd, hlt', app_get hA, app_get0 hA, app_set hA, app_set0 hA, Nat.add_assoc]; rfl) ?_
    refine RegO.step rfl (OpStep.callA rfl (by simp [hd, hlt', app_get hA, app_get0 hA, app_set hA, app_set0 hA, Nat.add_assoc]; exact ⟨rfl, rfl⟩) (by simp [hd, hlt', app_get hA, app_get0 hA, app_set hA, app_set0 hA, Nat.add_assoc]; rfl) (by exact markText_spec _ t2.1 t2.2) (by simp) (by simp [hd, hlt', app_get hA, app_get0 hA, app_set hA, app_set0 hA, Nat.add_assoc]; rfl)) ?_
    refine RegO.opN 3 (by simp [hd, hlt', app_get hA, app_get0 hA, app_set hA, app_set0 hA, Nat.add_assoc]; rfl) ?_
    refine RegO.nil ?_
    refine DW.reg (by simp [v3]; rfl) ?_
    refine DW.reg (by simp [w1]; rfl) ?_
    clear v1 v2 v3
    exact ⟨(i + 1, K + 3), ⟨hlt, by simp only; omega⟩, by simp only; omega, by simp, by simp [hm, mb], by simp, by rfl⟩
  · have hil : i = l.length := by
      have : ¬ i < l.length := by simpa using hc0
      omega
    subst hil
    rw [List.take_length] at hK
    refine DW.exit ?_
    refine DW.seq ?_
    refine DW.reg (by simp; rfl) ?_
    refine DW.ret ?_
    simp [Try.results23, hK]
theorem markStepS_spec0 (k : Int) : Spec Try.prog 23 [.one (.r (.sl 0 [])), ri k] [none] [di k] [.one (.r (.sl 0 [])), ri k] := by
  refine Spec.intro Try.func23 rfl rfl Try.ntmps23 rfl (by simp) ?_
  refine DW.seq ?_
  refine DW.reg (by simp; rfl) ?_
  refine DW.seq ?_
  refine DW.seq ?_
  refine DW.reg (by simp; rfl) ?_
  refine DW.block ?_
  refine DW.loopS (α := Nat) (fun p => True) (fun p => p) (fun p => [(5, vi 0), (1, vi k)]) (fun p => []) [(0, _)] [] [] 0 (trivial) (by simp; exact rfl) (by simp) (by simp) (by rfl) ?_
  rintro p -
  refine DW.seq ?_
  refine DW.seq ?_
  refine DW.reg (by simp; rfl) ?_
  refine DW.condF (by simp) ?_
  refine DW.exit ?_
  refine DW.seq ?_
  refine DW.reg (by simp; rfl) ?_
  refine DW.ret ?_
  simp [Try.results23]
theorem heldCellS_spec (l : List Cell) (k : Int) (h0 : 0 < k) (h1 : k + (ctL l : Int) ≤ 1152921504606846976) (h : szL l ≤ 2 ^ 36) : Spec Try.prog 71 [.one (.r (.sl l.length (rR (mkL l k)))), ri k] [none] [di (k + (ctL l : Int))] [.one (.r (.sl l.length (rR (mkL l k)))), ri k] := by
  refine Spec.intro Try.func71 rfl rfl Try.ntmps71 rfl (by simp) ?_
  have hll := szL_len l
  refine DW.seq ?_
  refine DW.reg (by simp; rfl) ?_
  refine DW.seq ?_
  refine DW.seq ?_
  refine DW.reg (by simp; rfl) ?_
  refine DW.block ?_
  refine DW.loopS (α := Nat × Int) (fun p => p.1 ≤ l.length ∧ p.2 = k + (ctL (l.take p.1) : Int)) (fun p => l.length - p.1) (fun p => [(5, vi p.1), (1, vi p.2)]) (fun p => []) [(0, _)] [] [] (0, k) (⟨Nat.zero_le _, by simp⟩) (by simp; exact rfl) (by simp) (by simp) (by rfl) ?_
  rintro ⟨i, K⟩ ⟨hi, hK⟩
  simp only at hi hK ⊢
  refine DW.seq ?_
  refine DW.seq ?_
  refine DW.reg (by simp; rfl) ?_
  refine DW.condB (by simp; exact rfl) (fun hc0 => ?_) (fun hc0 => ?_)
  · have hlt : i < l.length := by simpa using hc0
    have hd := rR_drop_Cell (mkL l k) i (by simpa using hlt)
    rw [mkL_get l k i hlt, ← hK] at hd
    have hs := szL_at l i hlt
    have hct := ctL_take l i hlt
    have hca := ctL_at l i hlt
    have hlt' : (i : Int) < l.length := by omega
    have w1 : IntKind.i64.wrap ((i : Int) + 1) = ((i + 1 : Nat) : Int) := (wr _ (by omega) (by omega)).trans (by omega)
    generalize l[i] = c at hd hs hct hca
    have hcc := Cell_ct c
    have hcs := Cell_sz c
    rw [Cell_mk] at hd
    have t0 : 0 < K ∧ K < 4611686018427387904 := ⟨by omega, by omega⟩
    have t1 : 0 < K + 1 ∧ K + 1 < 4611686018427387904 := ⟨by omega, by omega⟩
    have t2 : 0 < K + 2 ∧ K + 2 < 4611686018427387904 := ⟨by omega, by omega⟩
    obtain ⟨v1, v2, v3⟩ : IntKind.i64.wrap (K + 1) = K + 1 ∧ IntKind.i64.wrap (K + 1 + 1) = K + 2 ∧ IntKind.i64.wrap (K + 2 + 1) = K + 3 := ⟨(wr _ (by omega) (by omega)).trans (by omega), (wr _ (by omega) (by omega)).trans (by omega), (wr _ (by omega) (by omega)).trans (by omega)⟩
    refine DW.skip ?_
    refine DW.seq ?_
    refine DW.block ?_
    refine DW.seq ?_
    refine DW.seq ?_
    refine DW.reg (by simp [hd, hlt', mb]; rfl) ?_
    refine DW.condF (by simp) ?_
    refine DW.skip ?_
    refine DW.seq ?_
    refine DW.reg (by simp [v1]; rfl) ?_
    refine DW.seq ?_
    refine DW.seq ?_
    refine DW.drawn mixed (by kernel_rfl) ?_
    refine RegD.addN 6 (by simp [hd, hlt', mb]; first | exact ⟨rfl, rfl⟩ | rfl) ?_
    refine RegD.cert (Cert.callA rfl (by simp) rfl (by decide) (by simp [hd, hlt', mb]; exact ⟨rfl, rfl⟩) (by simp [hd, hlt', mb]; rfl) (by exact markText_spec _ t1.1 t1.2) rfl (by simp) (by simp; rfl) rfl) ?_
    refine RegD.addN 1 (by simp [hd, hlt', mb]; first | exact ⟨rfl, rfl⟩ | rfl) ?_
    refine RegD.nil ⟨by kernel_rfl, ?_⟩
    refine DW.condF (by simp) ?_
    refine DW.skip ?_
    refine DW.seq ?_
    refine DW.reg (by simp [v2]; rfl) ?_
    refine DW.seq ?_
    refine DW.seq ?_
    refine DW.reg (by simp [hd, hlt', mb]; rfl) ?_
    refine DW.condF (by simp) ?_
    refine DW.skip ?_
    refine DW.reg (by simp [v3]; rfl) ?_
    refine DW.reg (by simp [w1]; rfl) ?_
    clear v1 v2 v3
    exact ⟨(i + 1, K + 3), ⟨hlt, by simp only; omega⟩, by simp only; omega, by simp, by simp, by simp, by rfl⟩
  · have hil : i = l.length := by
      have : ¬ i < l.length := by simpa using hc0
      omega
    subst hil
    rw [List.take_length] at hK
    refine DW.exit ?_
    refine DW.seq ?_
    refine DW.reg (by simp; rfl) ?_
    refine DW.ret ?_
    simp [Try.results71, hK]
theorem heldMemory_spec (a : Memory) (k : Int) (h0 : 0 < k) (h1 : k + (Memory.ctT a : Int) ≤ 1152921504606846976) (h : Row.sz a ≤ 2 ^ 36) : Spec Try.prog 17 [raMemory (Memory.mkT a k), ri k] [none] [di (k + (Memory.ctT a : Int))] [raMemory (Memory.mkT a k), ri k] := by
  refine Spec.intro Try.func17 rfl rfl Try.ntmps17 rfl (by simp) ?_
  have hz := Memory_sz a
  have hT : Memory.ctT a = ctL a.Cells := by simp only [Memory.mkT, Memory.ctT]
  have u0 : 0 < k ∧ k + (ctL a.Cells : Int) ≤ 1152921504606846976 ∧ szL a.Cells ≤ 2 ^ 36 ∧ ¬ (k + (ctL a.Cells : Int) < 0) := ⟨by omega, by omega, by omega, by omega⟩
  have hr : k + (Memory.ctT a : Int) = k + (ctL a.Cells : Int) := by omega
  refine DW.seq ?_
  refine DW.reg (by simp [Memory.mkT, u0.2.2.2]; rfl) ?_
  refine DW.seq ?_
  refine DW.regs ?_
  refine RegO.opN 3 (by simp [Memory.mkT, u0.2.2.2]; rfl) ?_
  refine RegO.step rfl (OpStep.callA rfl (by simp [Memory.mkT, u0.2.2.2]; exact ⟨rfl, rfl⟩) (by simp [Memory.mkT, u0.2.2.2]; rfl) (by exact heldCellS_spec a.Cells (k) u0.1 u0.2.1 u0.2.2.1) (by simp) (by simp [Memory.mkT, u0.2.2.2]; rfl)) ?_
  refine RegO.opN 1 (by simp [Memory.mkT, u0.2.2.2]; rfl) ?_
  refine RegO.nil ?_
  refine DW.seq ?_
  refine DW.seq ?_
  refine DW.reg (by simp [Memory.mkT, u0.2.2.2]; rfl) ?_
  refine DW.condF (by simp [Memory.mkT, u0.2.2.2]) ?_
  refine DW.skip ?_
  refine DW.seq ?_
  refine DW.reg (by simp [Memory.mkT, u0.2.2.2]; rfl) ?_
  refine DW.ret ?_
  simp [Try.results17, hr]
end Go.Proofs.Ytjjdjkkhhcbogaa.DM
