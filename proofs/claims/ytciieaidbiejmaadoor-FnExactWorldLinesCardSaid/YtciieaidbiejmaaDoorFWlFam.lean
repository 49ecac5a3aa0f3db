import Derived.Test.YtciieaidbiejmaaDoorFData
namespace Go.Proofs.YtciieaidbiejmaaDoor.DM
set_option linter.unusedVariables false
set_option linter.unusedSimpArgs false
set_option maxRecDepth 4000
set_option maxHeartbeats 8000000
@[simp] theorem rD_take1_View (l : List View) : (rD l).take l.length = rD l := by have h := rD_take_View l; rwa [Nat.mul_one] at h
@[simp] theorem rD_takem_View (l : List View) (k : Int) : (rD (mkL l k)).take l.length = rD (mkL l k) := by have h := rD_take1_View (mkL l k); rwa [mkL_len] at h
theorem markText_spec (k1 : Int) (h0 : 0 < k1) (h1 : k1 < 4611686018427387904) : Spec Tryd.prog 71 [ri k1] [none] [ds (mt k1)] [ri k1] := by
  refine Spec.intro Tryd.func71 rfl rfl Tryd.ntmps71 rfl (by simp) ?_
  obtain ⟨k0, rfl⟩ := Int.eq_ofNat_of_zero_le (show 0 ≤ k1 by omega)
  have h0n : ¬ (k0 : Int) ≤ 0 := by omega
  have h0m : ¬ k0 = 0 := by omega
  refine DW.seq ?_
  refine DW.reg (by simp; rfl) ?_
  refine DW.seq ?_
  refine DW.seq ?_
  refine DW.reg (by simp [h0n, h0m]; rfl) ?_
  refine DW.condF (by simp [h0n, h0m]) ?_
  refine DW.skip ?_
  refine DW.seq ?_
  refine DW.reg (by simp; rfl) ?_
  refine DW.seq ?_
  refine DW.block ?_
  refine DW.loopS (α := Nat × ByteArray) (fun p => p.1 ≤ k0 ∧ mtB p.1 p.2 = mtB k0 ByteArray.empty ∧ p.2.size + p.1 ≤ k0) (fun p => p.1) (fun p => [(0, vi p.1), (3, vs p.2)]) (fun p => []) [] [] [] (k0, ByteArray.empty) (⟨Nat.le_refl _, rfl, by simp⟩) (by simp) (by simp) (by simp) (by rfl) ?_
  rintro ⟨k, acc⟩ ⟨hk, hm, hs⟩
  simp only at hk hm hs ⊢
  refine DW.seq ?_
  refine DW.seq ?_
  refine DW.reg (by simp; rfl) ?_
  refine DW.condB (by simp; exact rfl) (fun hc1 => ?_) (fun hc1 => ?_)
  · have hp : 0 < k := by simpa using hc1
    have wd : IntKind.i64.wrap (48 + (k : Int).tmod 10) = ((48 + k % 10 : Nat) : Int) := by
      have e : (k : Int).tmod 10 = ((k % 10 : Nat) : Int) := by rw [Int.tmod_eq_emod_of_nonneg (by omega)]; omega
      rw [e, wr _ (by omega) (by omega)]; omega
    have hu : IntKind.u8.wrap (48 + (k : Int) % 10) = ((dg k).toNat : Int) := by
      have e1 : (dg k).toNat = 48 + k % 10 := by unfold dg; simp; omega
      rw [e1]; simp [IntKind.wrap, IntKind.bits, IntKind.signed]; omega
    have hz : (⟨#[dg k]⟩ ++ acc : ByteArray).size + k / 10 ≤ k0 := by rw [ByteArray.size_append]; show 1 + acc.size + k / 10 ≤ _; omega
    have hsz : ¬ ((9223372036854775807 : Int) < ((⟨#[dg k]⟩ : ByteArray).size : Int) + acc.size) := by show ¬ ((9223372036854775807 : Int) < ((1 : Nat) : Int) + acc.size); omega
    have hq : IntKind.i64.wrap ((k : Int) / 10) = (k : Int) / 10 := wr _ (by omega) (by omega)
    refine DW.skip ?_
    refine DW.block ?_
    refine DW.seq ?_
    refine DW.regs ?_
    refine RegO.opN 5 (by simp [wd]; rfl) ?_
    refine RegO.step rfl (OpStep.bytesStr (n := 1) (l := [dg k]) rfl rfl (by decide) (by simp; rfl) (by simp) (by simp) (by simp [rowLen]) (by simp [hu]; exact ⟨rfl, rfl⟩)) ?_
    refine RegO.opN 3 (by simp [hsz]; rfl) ?_
    refine RegO.nil ?_
    refine DW.reg (by simp [hq]; rfl) ?_
    exact ⟨(k / 10, ⟨#[dg k]⟩ ++ acc), ⟨by omega, by rw [← hm]; conv => rhs; rw [mtB, dif_pos hp], hz⟩, by simp; omega, by simp [hq], by simp, by simp, by rfl⟩
  · have hk0 : k = 0 := by
      have : ¬ 0 < k := by simpa using hc1
      omega
    subst hk0
    rw [mtB, dif_neg (by omega)] at hm
    have hsz : ¬ ((9223372036854775807 : Int) < ((⟨#[109]⟩ : ByteArray).size : Int) + acc.size) := by show ¬ ((9223372036854775807 : Int) < ((1 : Nat) : Int) + acc.size); omega
    refine DW.exit ?_
    refine DW.seq ?_
    refine DW.reg (by simp [hsz]; rfl) ?_
    refine DW.ret ?_
    simp [Tryd.results71, mt, ← hm]
theorem szCell_spec (a : Cell) (left : Int) (h0 : 0 ≤ left) (h1 : left ≤ 1099511627776) (ho : Row.ok 281474976710656 a) : Spec Tryd.prog 169 [raCell a, ri left] [none] [di (szr (left - (Row.sz a : Int)))] [raCell a, ri left] := by
  refine Spec.intro Tryd.func169 rfl rfl Tryd.ntmps169 rfl (by simp) ?_
  have hz := Cell_sz a
  rw [Cell_ok] at ho
  obtain ⟨_, o0⟩ := ho
  have w0 : IntKind.i64.wrap (left - (a.Text.size : Int)) = left - (a.Text.size : Int) := wr _ (by omega) (by omega)
  refine DW.seq ?_
  refine DW.reg (by simp [w0]; rfl) ?_
  refine DW.seq ?_
  refine DW.reg (by simp [w0]; rfl) ?_
  refine DW.seq ?_
  refine DW.seq ?_
  refine DW.reg (by simp [w0]; rfl) ?_
  refine DW.condB (by simp [w0]; exact rfl) (fun hc0 => ?_) (fun hc0 => ?_)
  · have q0 : True := trivial
    have w1 : True := trivial
    have hn0 : left - (a.Text.size : Int) < 0 := by simpa using hc0
    have hr : szr (left - (Row.sz a : Int)) = -1 := szr_neg (by omega)
    refine DW.seq ?_
    refine DW.reg (by simp [q0, w0]; rfl) ?_
    refine DW.ret ?_
    simp [Tryd.results169, hr]
  · have hn0 : ¬ (left - (a.Text.size : Int) < 0) := by simpa using hc0
    have q0 : szr (left - (a.Text.size : Int)) = left - (a.Text.size : Int) := szr_pos (by omega)
    have hr : szr (left - (Row.sz a : Int)) = left - (a.Text.size : Int) := by rw [szr_pos (by omega)]; omega
    refine DW.skip ?_
    refine DW.seq ?_
    refine DW.reg (by simp [q0, w0]; rfl) ?_
    refine DW.ret ?_
    simp [Tryd.results169, hr]
theorem szCellS_spec (l : List Cell) (left : Int) (h0 : 0 ≤ left) (h1 : left ≤ 1099511627776) (ho : okL 281474976710656 l) : Spec Tryd.prog 131 [ra l, ri left] [none] [di (szr (left - (szL l : Int)))] [ra l, ri left] := by
  refine Spec.intro Tryd.func131 rfl rfl Tryd.ntmps131 rfl (by simp) ?_
  have hll := szL_len l
  have hl := ho.1
  have w0 : IntKind.i64.wrap (left - (l.length : Int)) = left - (l.length : Int) := wr _ (by omega) (by omega)
  refine DW.seq ?_
  refine DW.reg (by simp [w0]; rfl) ?_
  refine DW.seq ?_
  refine DW.reg (by simp [w0]; rfl) ?_
  refine DW.seq ?_
  refine DW.seq ?_
  refine DW.reg (by simp [w0]; rfl) ?_
  refine DW.condB (by simp [w0]; exact rfl) (fun hc0 => ?_) (fun hc0 => ?_)
  · have hn : left - (l.length : Int) < 0 := by simpa using hc0
    have hr : szr (left - (szL l : Int)) = -1 := szr_neg (by omega)
    refine DW.seq ?_
    refine DW.reg (by simp [w0]; rfl) ?_
    refine DW.ret ?_
    simp [Tryd.results131, hr]
  · have hn : ¬ (left - (l.length : Int) < 0) := by simpa using hc0
    refine DW.skip ?_
    refine DW.seq ?_
    refine DW.seq ?_
    refine DW.reg (by simp [w0]; rfl) ?_
    refine DW.block ?_
    refine DW.loopS (α := Nat) (fun i => i ≤ l.length ∧ 0 ≤ (left - (l.length : Int) + (i : Int) - (szL (l.take i) : Int))) (fun i => l.length - i) (fun i => [(5, vi i), (1, vi (left - (l.length : Int) + (i : Int) - (szL (l.take i) : Int)))]) (fun i => []) [(0, _)] [] [] 0 (⟨by omega, by simp; omega⟩) (by simp; exact rfl) (by simp) (by simp) (by rfl) ?_
    intro i hi
    obtain ⟨hi, hp⟩ := hi
    refine DW.seq ?_
    refine DW.seq ?_
    refine DW.reg (by simp [w0]; rfl) ?_
    refine DW.condB (by simp [w0]; exact rfl) (fun hc1 => ?_) (fun hc1 => ?_)
    · have hlt : i < l.length := by simpa using hc1
      have hd := rR_drop_Cell l i hlt
      have hs := szL_at l i hlt
      have hst := szL_take l i hlt
      have hdl := szL_len (l.drop (i + 1))
      rw [List.length_drop] at hdl
      have hoc := okL_at ho i hlt
      have hlt' : (i : Int) < l.length := by omega
      have w1 : IntKind.i64.wrap ((i : Int) + 1) = ((i + 1 : Nat) : Int) := (wr _ (by omega) (by omega)).trans (by omega)
      generalize l[i] = c at hd hs hst hoc
      refine DW.skip ?_
      refine DW.seq ?_
      refine DW.block ?_
      refine DW.seq ?_
      refine DW.regs ?_
      refine RegO.opN 5 (by simp [w0, hd, hlt']; rfl) ?_
      refine RegO.step rfl (OpStep.callA rfl (by simp [w0, hd, hlt']; exact ⟨rfl, rfl⟩) (by simp [w0, hd, hlt']; rfl) (by exact szCell_spec _ _ (by omega) (by omega) hoc) (by simp) (by simp [w0, hd, hlt']; rfl)) ?_
      refine RegO.opN 1 (by simp [w0, hd, hlt']; rfl) ?_
      refine RegO.nil ?_
      refine DW.seq ?_
      refine DW.reg (by simp [w0]; rfl) ?_
      refine DW.condB (by simp [w0]; exact rfl) (fun hc2 => ?_) (fun hc2 => ?_)
      · have hn : (left - (l.length : Int) + (i : Int) - (szL (l.take i) : Int)) - (Row.sz c : Int) < 0 := by simpa using hc2
        have hr : szr (left - (szL l : Int)) = -1 := szr_neg (by omega)
        refine DW.seq ?_
        refine DW.reg (by simp [w0]; rfl) ?_
        refine DW.ret ?_
        simp [Tryd.results131, hr]
      · have hn : ¬ ((left - (l.length : Int) + (i : Int) - (szL (l.take i) : Int)) - (Row.sz c : Int) < 0) := by simpa using hc2
        have hq : szr ((left - (l.length : Int) + (i : Int) - (szL (l.take i) : Int)) - (Row.sz c : Int)) = (left - (l.length : Int) + ((i + 1 : Nat) : Int) - (szL (l.take (i + 1)) : Int)) := by rw [szr_pos (by omega)]; omega
        refine DW.skip ?_
        refine DW.reg (by simp [w0, w1, hq]; rfl) ?_
        exact ⟨i + 1, ⟨hlt, by omega⟩, by omega, by simp [hq], by simp, by simp, by rfl⟩
    · have hil : i = l.length := by
        have : ¬ i < l.length := by simpa using hc1
        omega
      subst hil
      rw [List.take_length] at hp
      have hr : szr (left - (szL l : Int)) = left - (l.length : Int) + (l.length : Int) - (szL l : Int) := by rw [szr_pos (by omega)]; omega
      refine DW.exit ?_
      refine DW.seq ?_
      refine DW.reg (by simp [w0]; rfl) ?_
      refine DW.ret ?_
      simp [Tryd.results131, hr]
theorem szMemory_spec (a : Memory) (left : Int) (h0 : 0 ≤ left) (h1 : left ≤ 1099511627776) (ho : Row.ok 281474976710656 a) : Spec Tryd.prog 96 [raMemory a, ri left] [none] [di (szr (left - (Row.sz a : Int)))] [raMemory a, ri left] := by
  refine Spec.intro Tryd.func96 rfl rfl Tryd.ntmps96 rfl (by simp) ?_
  have hz := Memory_sz a
  rw [Memory_ok] at ho
  obtain ⟨o0, o1⟩ := ho
  have w0 : IntKind.i64.wrap (left - (a.Kept.size : Int)) = left - (a.Kept.size : Int) := wr _ (by omega) (by omega)
  refine DW.seq ?_
  refine DW.reg (by simp [w0]; rfl) ?_
  refine DW.seq ?_
  refine DW.reg (by simp [w0]; rfl) ?_
  refine DW.seq ?_
  refine DW.seq ?_
  refine DW.reg (by simp [w0]; rfl) ?_
  refine DW.condB (by simp [w0]; exact rfl) (fun hc0 => ?_) (fun hc0 => ?_)
  · have q0 : True := trivial
    have w1 : True := trivial
    have hn0 : left - (a.Kept.size : Int) < 0 := by simpa using hc0
    have hr : szr (left - (Row.sz a : Int)) = -1 := szr_neg (by omega)
    refine DW.seq ?_
    refine DW.reg (by simp [q0, w0]; rfl) ?_
    refine DW.ret ?_
    simp [Tryd.results96, hr]
  · have hn0 : ¬ (left - (a.Kept.size : Int) < 0) := by simpa using hc0
    have q0 : szr (left - (a.Kept.size : Int)) = left - (a.Kept.size : Int) := szr_pos (by omega)
    refine DW.skip ?_
    refine DW.seq ?_
    refine DW.regs ?_
    refine RegO.opN 3 (by simp [q0, w0]; rfl) ?_
    refine RegO.step rfl (OpStep.callA rfl (by simp [q0, w0]; exact ⟨rfl, rfl⟩) (by simp [q0, w0]; rfl) (by exact szCellS_spec _ _ (by omega) (by omega) o1) (by simp) (by simp [q0, w0]; rfl)) ?_
    refine RegO.opN 1 (by simp [q0, w0]; rfl) ?_
    refine RegO.nil ?_
    refine DW.seq ?_
    refine DW.seq ?_
    refine DW.reg (by simp [q0, w0]; rfl) ?_
    refine DW.condB (by simp [q0, w0]; exact rfl) (fun hc1 => ?_) (fun hc1 => ?_)
    · have q1 : True := trivial
      have w2 : True := trivial
      have hn1 : left - (a.Kept.size : Int) - (szL a.Cells : Int) < 0 := by simpa using hc1
      have hr : szr (left - (Row.sz a : Int)) = -1 := szr_neg (by omega)
      refine DW.seq ?_
      refine DW.reg (by simp [q0, q1, w0]; rfl) ?_
      refine DW.ret ?_
      simp [Tryd.results96, hr]
    · have hn1 : ¬ (left - (a.Kept.size : Int) - (szL a.Cells : Int) < 0) := by simpa using hc1
      have q1 : szr (left - (a.Kept.size : Int) - (szL a.Cells : Int)) = left - (a.Kept.size : Int) - (szL a.Cells : Int) := szr_pos (by omega)
      have hr : szr (left - (Row.sz a : Int)) = left - (a.Kept.size : Int) - (szL a.Cells : Int) := by rw [szr_pos (by omega)]; omega
      refine DW.skip ?_
      refine DW.seq ?_
      refine DW.reg (by simp [q0, q1, w0]; rfl) ?_
      refine DW.ret ?_
      simp [Tryd.results96, hr]
theorem szAsk_spec (a : Ask) (left : Int) (h0 : 0 ≤ left) (h1 : left ≤ 1099511627776) (ho : Row.ok 281474976710656 a) : Spec Tryd.prog 10 [raAsk a, ri left] [none] [di (szr (left - (Row.sz a : Int)))] [raAsk a, ri left] := by
  refine Spec.intro Tryd.func10 rfl rfl Tryd.ntmps10 rfl (by simp) ?_
  have hz := Ask_sz a
  rw [Ask_ok] at ho
  obtain ⟨_, o0, o1, _, _, o2⟩ := ho
  have w0 : IntKind.i64.wrap (left - (a.Path.size : Int)) = left - (a.Path.size : Int) := wr _ (by omega) (by omega)
  refine DW.seq ?_
  refine DW.reg (by simp [w0]; rfl) ?_
  refine DW.seq ?_
  refine DW.reg (by simp [w0]; rfl) ?_
  refine DW.seq ?_
  refine DW.seq ?_
  refine DW.reg (by simp [w0]; rfl) ?_
  refine DW.condB (by simp [w0]; exact rfl) (fun hc0 => ?_) (fun hc0 => ?_)
  · have q0 : True := trivial
    have w1 : True := trivial
    have hn0 : left - (a.Path.size : Int) < 0 := by simpa using hc0
    have hr : szr (left - (Row.sz a : Int)) = -1 := szr_neg (by omega)
    refine DW.seq ?_
    refine DW.reg (by simp [q0, w0, w1]; rfl) ?_
    refine DW.ret ?_
    simp [Tryd.results10, hr]
  · have hn0 : ¬ (left - (a.Path.size : Int) < 0) := by simpa using hc0
    have q0 : szr (left - (a.Path.size : Int)) = left - (a.Path.size : Int) := szr_pos (by omega)
    have w1 : IntKind.i64.wrap (left - (a.Path.size : Int) - (a.To.size : Int)) = left - (a.Path.size : Int) - (a.To.size : Int) := wr _ (by omega) (by omega)
    refine DW.skip ?_
    refine DW.seq ?_
    refine DW.reg (by simp [q0, w0, w1]; rfl) ?_
    refine DW.seq ?_
    refine DW.seq ?_
    refine DW.reg (by simp [q0, w0, w1]; rfl) ?_
    refine DW.condB (by simp [q0, w0, w1]; exact rfl) (fun hc1 => ?_) (fun hc1 => ?_)
    · have q1 : True := trivial
      have w2 : True := trivial
      have hn1 : left - (a.Path.size : Int) - (a.To.size : Int) < 0 := by simpa using hc1
      have hr : szr (left - (Row.sz a : Int)) = -1 := szr_neg (by omega)
      refine DW.seq ?_
      refine DW.reg (by simp [q0, q1, w0, w1, w2]; rfl) ?_
      refine DW.ret ?_
      simp [Tryd.results10, hr]
    · have hn1 : ¬ (left - (a.Path.size : Int) - (a.To.size : Int) < 0) := by simpa using hc1
      have q1 : szr (left - (a.Path.size : Int) - (a.To.size : Int)) = left - (a.Path.size : Int) - (a.To.size : Int) := szr_pos (by omega)
      have w2 : IntKind.i64.wrap (left - (a.Path.size : Int) - (a.To.size : Int) - (a.Text.size : Int)) = left - (a.Path.size : Int) - (a.To.size : Int) - (a.Text.size : Int) := wr _ (by omega) (by omega)
      refine DW.skip ?_
      refine DW.seq ?_
      refine DW.reg (by simp [q0, q1, w0, w1, w2]; rfl) ?_
      refine DW.seq ?_
      refine DW.seq ?_
      refine DW.reg (by simp [q0, q1, w0, w1, w2]; rfl) ?_
      refine DW.condB (by simp [q0, q1, w0, w1, w2]; exact rfl) (fun hc2 => ?_) (fun hc2 => ?_)
      · have q2 : True := trivial
        have w3 : True := trivial
        have hn2 : left - (a.Path.size : Int) - (a.To.size : Int) - (a.Text.size : Int) < 0 := by simpa using hc2
        have hr : szr (left - (Row.sz a : Int)) = -1 := szr_neg (by omega)
        refine DW.seq ?_
        refine DW.reg (by simp [q0, q1, q2, w0, w1, w2]; rfl) ?_
        refine DW.ret ?_
        simp [Tryd.results10, hr]
      · have hn2 : ¬ (left - (a.Path.size : Int) - (a.To.size : Int) - (a.Text.size : Int) < 0) := by simpa using hc2
        have q2 : szr (left - (a.Path.size : Int) - (a.To.size : Int) - (a.Text.size : Int)) = left - (a.Path.size : Int) - (a.To.size : Int) - (a.Text.size : Int) := szr_pos (by omega)
        have hr : szr (left - (Row.sz a : Int)) = left - (a.Path.size : Int) - (a.To.size : Int) - (a.Text.size : Int) := by rw [szr_pos (by omega)]; omega
        refine DW.skip ?_
        refine DW.seq ?_
        refine DW.reg (by simp [q0, q1, q2, w0, w1, w2]; rfl) ?_
        refine DW.ret ?_
        simp [Tryd.results10, hr]
theorem szStringS_spec (l : List ByteArray) (left : Int) (h0 : 0 ≤ left) (h1 : left ≤ 1099511627776) (ho : okL 281474976710656 l) : Spec Tryd.prog 35 [ra l, ri left] [none] [di (szr (left - (szL l : Int)))] [ra l, ri left] := by
  refine Spec.intro Tryd.func35 rfl rfl Tryd.ntmps35 rfl (by simp) ?_
  have hll := szL_len l
  have hl := ho.1
  have w0 : IntKind.i64.wrap (left - (l.length : Int)) = left - (l.length : Int) := wr _ (by omega) (by omega)
  refine DW.seq ?_
  refine DW.reg (by simp [w0]; rfl) ?_
  refine DW.seq ?_
  refine DW.reg (by simp [w0]; rfl) ?_
  refine DW.seq ?_
  refine DW.seq ?_
  refine DW.reg (by simp [w0]; rfl) ?_
  refine DW.condB (by simp [w0]; exact rfl) (fun hc0 => ?_) (fun hc0 => ?_)
  · have hn : left - (l.length : Int) < 0 := by simpa using hc0
    have hr : szr (left - (szL l : Int)) = -1 := szr_neg (by omega)
    refine DW.seq ?_
    refine DW.reg (by simp [w0]; rfl) ?_
    refine DW.ret ?_
    simp [Tryd.results35, hr]
  · have hn : ¬ (left - (l.length : Int) < 0) := by simpa using hc0
    refine DW.skip ?_
    refine DW.seq ?_
    refine DW.seq ?_
    refine DW.reg (by simp [w0]; rfl) ?_
    refine DW.block ?_
    refine DW.loopS (α := Nat) (fun i => i ≤ l.length ∧ 0 ≤ (left - (l.length : Int) + (i : Int) - (szL (l.take i) : Int))) (fun i => l.length - i) (fun i => [(5, vi i), (1, vi (left - (l.length : Int) + (i : Int) - (szL (l.take i) : Int)))]) (fun i => []) [(0, _)] [] [] 0 (⟨by omega, by simp; omega⟩) (by simp; exact rfl) (by simp) (by simp) (by rfl) ?_
    intro i hi
    obtain ⟨hi, hp⟩ := hi
    refine DW.seq ?_
    refine DW.seq ?_
    refine DW.reg (by simp [w0]; rfl) ?_
    refine DW.condB (by simp [w0]; exact rfl) (fun hc1 => ?_) (fun hc1 => ?_)
    · have hlt : i < l.length := by simpa using hc1
      have hd := rR_get_ByteArray l i hlt
      have hs := szL_at l i hlt
      have hst := szL_take l i hlt
      have hdl := szL_len (l.drop (i + 1))
      rw [List.length_drop] at hdl
      have hoc := okL_at ho i hlt
      have hlt' : (i : Int) < l.length := by omega
      have w1 : IntKind.i64.wrap ((i : Int) + 1) = ((i + 1 : Nat) : Int) := (wr _ (by omega) (by omega)).trans (by omega)
      generalize l[i] = c at hd hs hst hoc
      have hsc : Row.sz c = c.size := rfl
      have hoc2 : c.size ≤ 281474976710656 := hoc
      have hq : IntKind.i64.wrap ((left - (l.length : Int) + (i : Int) - (szL (l.take i) : Int)) - (c.size : Int)) = (left - (l.length : Int) + ((i + 1 : Nat) : Int) - (szL (l.take (i + 1)) : Int)) := (wr _ (by omega) (by omega)).trans (by omega)
      refine DW.skip ?_
      refine DW.seq ?_
      refine DW.block ?_
      refine DW.seq ?_
      refine DW.reg (by simp [w0, hd, hlt', hq]; rfl) ?_
      refine DW.seq ?_
      refine DW.reg (by simp [w0]; rfl) ?_
      refine DW.condB (by simp [w0]; exact rfl) (fun hc2 => ?_) (fun hc2 => ?_)
      · have hn : (left - (l.length : Int) + ((i + 1 : Nat) : Int) - (szL (l.take (i + 1)) : Int)) < 0 := by simpa using hc2
        have hr : szr (left - (szL l : Int)) = -1 := szr_neg (by omega)
        refine DW.seq ?_
        refine DW.reg (by simp [w0]; rfl) ?_
        refine DW.ret ?_
        simp [Tryd.results35, hr]
      · have hn : ¬ ((left - (l.length : Int) + ((i + 1 : Nat) : Int) - (szL (l.take (i + 1)) : Int)) < 0) := by simpa using hc2
        refine DW.skip ?_
        refine DW.reg (by simp [w0, w1]; rfl) ?_
        exact ⟨i + 1, ⟨hlt, by omega⟩, by omega, by simp, by simp, by simp, by rfl⟩
    · have hil : i = l.length := by
        have : ¬ i < l.length := by simpa using hc1
        omega
      subst hil
      rw [List.take_length] at hp
      have hr : szr (left - (szL l : Int)) = left - (l.length : Int) + (l.length : Int) - (szL l : Int) := by rw [szr_pos (by omega)]; omega
      refine DW.exit ?_
      refine DW.seq ?_
      refine DW.reg (by simp [w0]; rfl) ?_
      refine DW.ret ?_
      simp [Tryd.results35, hr]
theorem szResult_spec (a : Result) (left : Int) (h0 : 0 ≤ left) (h1 : left ≤ 1099511627776) (ho : Row.ok 281474976710656 a) : Spec Tryd.prog 18 [raResult a, ri left] [none] [di (szr (left - (Row.sz a : Int)))] [raResult a, ri left] := by
  refine Spec.intro Tryd.func18 rfl rfl Tryd.ntmps18 rfl (by simp) ?_
  have hz := Result_sz a
  rw [Result_ok] at ho
  obtain ⟨_, o0, _, o1⟩ := ho
  have w0 : IntKind.i64.wrap (left - (a.Text.size : Int)) = left - (a.Text.size : Int) := wr _ (by omega) (by omega)
  refine DW.seq ?_
  refine DW.reg (by simp [w0]; rfl) ?_
  refine DW.seq ?_
  refine DW.reg (by simp [w0]; rfl) ?_
  refine DW.seq ?_
  refine DW.seq ?_
  refine DW.reg (by simp [w0]; rfl) ?_
  refine DW.condB (by simp [w0]; exact rfl) (fun hc0 => ?_) (fun hc0 => ?_)
  · have q0 : True := trivial
    have w1 : True := trivial
    have hn0 : left - (a.Text.size : Int) < 0 := by simpa using hc0
    have hr : szr (left - (Row.sz a : Int)) = -1 := szr_neg (by omega)
    refine DW.seq ?_
    refine DW.reg (by simp [q0, w0]; rfl) ?_
    refine DW.ret ?_
    simp [Tryd.results18, hr]
  · have hn0 : ¬ (left - (a.Text.size : Int) < 0) := by simpa using hc0
    have q0 : szr (left - (a.Text.size : Int)) = left - (a.Text.size : Int) := szr_pos (by omega)
    refine DW.skip ?_
    refine DW.seq ?_
    refine DW.regs ?_
    refine RegO.opN 3 (by simp [q0, w0]; rfl) ?_
    refine RegO.step rfl (OpStep.callA rfl (by simp [q0, w0]; exact ⟨rfl, rfl⟩) (by simp [q0, w0]; rfl) (by exact szStringS_spec _ _ (by omega) (by omega) o1) (by simp) (by simp [q0, w0]; rfl)) ?_
    refine RegO.opN 1 (by simp [q0, w0]; rfl) ?_
    refine RegO.nil ?_
    refine DW.seq ?_
    refine DW.seq ?_
    refine DW.reg (by simp [q0, w0]; rfl) ?_
    refine DW.condB (by simp [q0, w0]; exact rfl) (fun hc1 => ?_) (fun hc1 => ?_)
    · have q1 : True := trivial
      have w2 : True := trivial
      have hn1 : left - (a.Text.size : Int) - (szL a.Names : Int) < 0 := by simpa using hc1
      have hr : szr (left - (Row.sz a : Int)) = -1 := szr_neg (by omega)
      refine DW.seq ?_
      refine DW.reg (by simp [q0, q1, w0]; rfl) ?_
      refine DW.ret ?_
      simp [Tryd.results18, hr]
    · have hn1 : ¬ (left - (a.Text.size : Int) - (szL a.Names : Int) < 0) := by simpa using hc1
      have q1 : szr (left - (a.Text.size : Int) - (szL a.Names : Int)) = left - (a.Text.size : Int) - (szL a.Names : Int) := szr_pos (by omega)
      have hr : szr (left - (Row.sz a : Int)) = left - (a.Text.size : Int) - (szL a.Names : Int) := by rw [szr_pos (by omega)]; omega
      refine DW.skip ?_
      refine DW.seq ?_
      refine DW.reg (by simp [q0, q1, w0]; rfl) ?_
      refine DW.ret ?_
      simp [Tryd.results18, hr]
theorem szStep_spec (a : Step) (left : Int) (h0 : 0 ≤ left) (h1 : left ≤ 1099511627776) (ho : Row.ok 281474976710656 a) : Spec Tryd.prog 201 [raStep a, ri left] [none] [di (szr (left - (Row.sz a : Int)))] [raStep a, ri left] := by
  refine Spec.intro Tryd.func201 rfl rfl Tryd.ntmps201 rfl (by simp) ?_
  have hz := Step_sz a
  rw [Step_ok] at ho
  obtain ⟨_, _, o0⟩ := ho
  have w0 : IntKind.i64.wrap (left - (a.Word.size : Int)) = left - (a.Word.size : Int) := wr _ (by omega) (by omega)
  refine DW.seq ?_
  refine DW.reg (by simp [w0]; rfl) ?_
  refine DW.seq ?_
  refine DW.reg (by simp [w0]; rfl) ?_
  refine DW.seq ?_
  refine DW.seq ?_
  refine DW.reg (by simp [w0]; rfl) ?_
  refine DW.condB (by simp [w0]; exact rfl) (fun hc0 => ?_) (fun hc0 => ?_)
  · have q0 : True := trivial
    have w1 : True := trivial
    have hn0 : left - (a.Word.size : Int) < 0 := by simpa using hc0
    have hr : szr (left - (Row.sz a : Int)) = -1 := szr_neg (by omega)
    refine DW.seq ?_
    refine DW.reg (by simp [q0, w0]; rfl) ?_
    refine DW.ret ?_
    simp [Tryd.results201, hr]
  · have hn0 : ¬ (left - (a.Word.size : Int) < 0) := by simpa using hc0
    have q0 : szr (left - (a.Word.size : Int)) = left - (a.Word.size : Int) := szr_pos (by omega)
    have hr : szr (left - (Row.sz a : Int)) = left - (a.Word.size : Int) := by rw [szr_pos (by omega)]; omega
    refine DW.skip ?_
    refine DW.seq ?_
    refine DW.reg (by simp [q0, w0]; rfl) ?_
    refine DW.ret ?_
    simp [Tryd.results201, hr]
theorem szStepS_spec (l : List Step) (left : Int) (h0 : 0 ≤ left) (h1 : left ≤ 1099511627776) (ho : okL 281474976710656 l) : Spec Tryd.prog 170 [ra l, ri left] [none] [di (szr (left - (szL l : Int)))] [ra l, ri left] := by
  refine Spec.intro Tryd.func170 rfl rfl Tryd.ntmps170 rfl (by simp) ?_
  have hll := szL_len l
  have hl := ho.1
  have w0 : IntKind.i64.wrap (left - (l.length : Int)) = left - (l.length : Int) := wr _ (by omega) (by omega)
  refine DW.seq ?_
  refine DW.reg (by simp [w0]; rfl) ?_
  refine DW.seq ?_
  refine DW.reg (by simp [w0]; rfl) ?_
  refine DW.seq ?_
  refine DW.seq ?_
  refine DW.reg (by simp [w0]; rfl) ?_
  refine DW.condB (by simp [w0]; exact rfl) (fun hc0 => ?_) (fun hc0 => ?_)
  · have hn : left - (l.length : Int) < 0 := by simpa using hc0
    have hr : szr (left - (szL l : Int)) = -1 := szr_neg (by omega)
    refine DW.seq ?_
    refine DW.reg (by simp [w0]; rfl) ?_
    refine DW.ret ?_
    simp [Tryd.results170, hr]
  · have hn : ¬ (left - (l.length : Int) < 0) := by simpa using hc0
    refine DW.skip ?_
    refine DW.seq ?_
    refine DW.seq ?_
    refine DW.reg (by simp [w0]; rfl) ?_
    refine DW.block ?_
    refine DW.loopS (α := Nat) (fun i => i ≤ l.length ∧ 0 ≤ (left - (l.length : Int) + (i : Int) - (szL (l.take i) : Int))) (fun i => l.length - i) (fun i => [(5, vi i), (1, vi (left - (l.length : Int) + (i : Int) - (szL (l.take i) : Int)))]) (fun i => []) [(0, _)] [] [] 0 (⟨by omega, by simp; omega⟩) (by simp; exact rfl) (by simp) (by simp) (by rfl) ?_
    intro i hi
    obtain ⟨hi, hp⟩ := hi
    refine DW.seq ?_
    refine DW.seq ?_
    refine DW.reg (by simp [w0]; rfl) ?_
    refine DW.condB (by simp [w0]; exact rfl) (fun hc1 => ?_) (fun hc1 => ?_)
    · have hlt : i < l.length := by simpa using hc1
      have hd := rR_drop_Step l i hlt
      have hs := szL_at l i hlt
      have hst := szL_take l i hlt
      have hdl := szL_len (l.drop (i + 1))
      rw [List.length_drop] at hdl
      have hoc := okL_at ho i hlt
      have hlt' : (i : Int) < l.length := by omega
      have w1 : IntKind.i64.wrap ((i : Int) + 1) = ((i + 1 : Nat) : Int) := (wr _ (by omega) (by omega)).trans (by omega)
      generalize l[i] = c at hd hs hst hoc
      refine DW.skip ?_
      refine DW.seq ?_
      refine DW.block ?_
      refine DW.seq ?_
      refine DW.regs ?_
      refine RegO.opN 5 (by simp [w0, hd, hlt']; rfl) ?_
      refine RegO.step rfl (OpStep.callA rfl (by simp [w0, hd, hlt']; exact ⟨rfl, rfl⟩) (by simp [w0, hd, hlt']; rfl) (by exact szStep_spec _ _ (by omega) (by omega) hoc) (by simp) (by simp [w0, hd, hlt']; rfl)) ?_
      refine RegO.opN 1 (by simp [w0, hd, hlt']; rfl) ?_
      refine RegO.nil ?_
      refine DW.seq ?_
      refine DW.reg (by simp [w0]; rfl) ?_
      refine DW.condB (by simp [w0]; exact rfl) (fun hc2 => ?_) (fun hc2 => ?_)
      · have hn : (left - (l.length : Int) + (i : Int) - (szL (l.take i) : Int)) - (Row.sz c : Int) < 0 := by simpa using hc2
        have hr : szr (left - (szL l : Int)) = -1 := szr_neg (by omega)
        refine DW.seq ?_
        refine DW.reg (by simp [w0]; rfl) ?_
        refine DW.ret ?_
        simp [Tryd.results170, hr]
      · have hn : ¬ ((left - (l.length : Int) + (i : Int) - (szL (l.take i) : Int)) - (Row.sz c : Int) < 0) := by simpa using hc2
        have hq : szr ((left - (l.length : Int) + (i : Int) - (szL (l.take i) : Int)) - (Row.sz c : Int)) = (left - (l.length : Int) + ((i + 1 : Nat) : Int) - (szL (l.take (i + 1)) : Int)) := by rw [szr_pos (by omega)]; omega
        refine DW.skip ?_
        refine DW.reg (by simp [w0, w1, hq]; rfl) ?_
        exact ⟨i + 1, ⟨hlt, by omega⟩, by omega, by simp [hq], by simp, by simp, by rfl⟩
    · have hil : i = l.length := by
        have : ¬ i < l.length := by simpa using hc1
        omega
      subst hil
      rw [List.take_length] at hp
      have hr : szr (left - (szL l : Int)) = left - (l.length : Int) + (l.length : Int) - (szL l : Int) := by rw [szr_pos (by omega)]; omega
      refine DW.exit ?_
      refine DW.seq ?_
      refine DW.reg (by simp [w0]; rfl) ?_
      refine DW.ret ?_
      simp [Tryd.results170, hr]
theorem szSealing_spec (a : Sealing) (left : Int) (h0 : 0 ≤ left) (h1 : left ≤ 1099511627776) (ho : Row.ok 281474976710656 a) : Spec Tryd.prog 133 [raSealing a, ri left] [none] [di (szr (left - (Row.sz a : Int)))] [raSealing a, ri left] := by
  refine Spec.intro Tryd.func133 rfl rfl Tryd.ntmps133 rfl (by simp) ?_
  have hz := Sealing_sz a
  rw [Sealing_ok] at ho
  obtain ⟨o0, o1, o2⟩ := ho
  have w0 : IntKind.i64.wrap (left - (a.Key.size : Int)) = left - (a.Key.size : Int) := wr _ (by omega) (by omega)
  refine DW.seq ?_
  refine DW.reg (by simp [w0]; rfl) ?_
  refine DW.seq ?_
  refine DW.reg (by simp [w0]; rfl) ?_
  refine DW.seq ?_
  refine DW.seq ?_
  refine DW.reg (by simp [w0]; rfl) ?_
  refine DW.condB (by simp [w0]; exact rfl) (fun hc0 => ?_) (fun hc0 => ?_)
  · have q0 : True := trivial
    have w1 : True := trivial
    have hn0 : left - (a.Key.size : Int) < 0 := by simpa using hc0
    have hr : szr (left - (Row.sz a : Int)) = -1 := szr_neg (by omega)
    refine DW.seq ?_
    refine DW.reg (by simp [q0, w0, w1]; rfl) ?_
    refine DW.ret ?_
    simp [Tryd.results133, hr]
  · have hn0 : ¬ (left - (a.Key.size : Int) < 0) := by simpa using hc0
    have q0 : szr (left - (a.Key.size : Int)) = left - (a.Key.size : Int) := szr_pos (by omega)
    have w1 : IntKind.i64.wrap (left - (a.Key.size : Int) - (a.Nonce.size : Int)) = left - (a.Key.size : Int) - (a.Nonce.size : Int) := wr _ (by omega) (by omega)
    refine DW.skip ?_
    refine DW.seq ?_
    refine DW.reg (by simp [q0, w0, w1]; rfl) ?_
    refine DW.seq ?_
    refine DW.seq ?_
    refine DW.reg (by simp [q0, w0, w1]; rfl) ?_
    refine DW.condB (by simp [q0, w0, w1]; exact rfl) (fun hc1 => ?_) (fun hc1 => ?_)
    · have q1 : True := trivial
      have w2 : True := trivial
      have hn1 : left - (a.Key.size : Int) - (a.Nonce.size : Int) < 0 := by simpa using hc1
      have hr : szr (left - (Row.sz a : Int)) = -1 := szr_neg (by omega)
      refine DW.seq ?_
      refine DW.reg (by simp [q0, q1, w0, w1, w2]; rfl) ?_
      refine DW.ret ?_
      simp [Tryd.results133, hr]
    · have hn1 : ¬ (left - (a.Key.size : Int) - (a.Nonce.size : Int) < 0) := by simpa using hc1
      have q1 : szr (left - (a.Key.size : Int) - (a.Nonce.size : Int)) = left - (a.Key.size : Int) - (a.Nonce.size : Int) := szr_pos (by omega)
      have w2 : IntKind.i64.wrap (left - (a.Key.size : Int) - (a.Nonce.size : Int) - (a.Text.size : Int)) = left - (a.Key.size : Int) - (a.Nonce.size : Int) - (a.Text.size : Int) := wr _ (by omega) (by omega)
      refine DW.skip ?_
      refine DW.seq ?_
      refine DW.reg (by simp [q0, q1, w0, w1, w2]; rfl) ?_
      refine DW.seq ?_
      refine DW.seq ?_
      refine DW.reg (by simp [q0, q1, w0, w1, w2]; rfl) ?_
      refine DW.condB (by simp [q0, q1, w0, w1, w2]; exact rfl) (fun hc2 => ?_) (fun hc2 => ?_)
      · have q2 : True := trivial
        have w3 : True := trivial
        have hn2 : left - (a.Key.size : Int) - (a.Nonce.size : Int) - (a.Text.size : Int) < 0 := by simpa using hc2
        have hr : szr (left - (Row.sz a : Int)) = -1 := szr_neg (by omega)
        refine DW.seq ?_
        refine DW.reg (by simp [q0, q1, q2, w0, w1, w2]; rfl) ?_
        refine DW.ret ?_
        simp [Tryd.results133, hr]
      · have hn2 : ¬ (left - (a.Key.size : Int) - (a.Nonce.size : Int) - (a.Text.size : Int) < 0) := by simpa using hc2
        have q2 : szr (left - (a.Key.size : Int) - (a.Nonce.size : Int) - (a.Text.size : Int)) = left - (a.Key.size : Int) - (a.Nonce.size : Int) - (a.Text.size : Int) := szr_pos (by omega)
        have hr : szr (left - (Row.sz a : Int)) = left - (a.Key.size : Int) - (a.Nonce.size : Int) - (a.Text.size : Int) := by rw [szr_pos (by omega)]; omega
        refine DW.skip ?_
        refine DW.seq ?_
        refine DW.reg (by simp [q0, q1, q2, w0, w1, w2]; rfl) ?_
        refine DW.ret ?_
        simp [Tryd.results133, hr]
theorem szSealingS_spec (l : List Sealing) (left : Int) (h0 : 0 ≤ left) (h1 : left ≤ 1099511627776) (ho : okL 281474976710656 l) : Spec Tryd.prog 98 [ra l, ri left] [none] [di (szr (left - (szL l : Int)))] [ra l, ri left] := by
  refine Spec.intro Tryd.func98 rfl rfl Tryd.ntmps98 rfl (by simp) ?_
  have hll := szL_len l
  have hl := ho.1
  have w0 : IntKind.i64.wrap (left - (l.length : Int)) = left - (l.length : Int) := wr _ (by omega) (by omega)
  refine DW.seq ?_
  refine DW.reg (by simp [w0]; rfl) ?_
  refine DW.seq ?_
  refine DW.reg (by simp [w0]; rfl) ?_
  refine DW.seq ?_
  refine DW.seq ?_
  refine DW.reg (by simp [w0]; rfl) ?_
  refine DW.condB (by simp [w0]; exact rfl) (fun hc0 => ?_) (fun hc0 => ?_)
  · have hn : left - (l.length : Int) < 0 := by simpa using hc0
    have hr : szr (left - (szL l : Int)) = -1 := szr_neg (by omega)
    refine DW.seq ?_
    refine DW.reg (by simp [w0]; rfl) ?_
    refine DW.ret ?_
    simp [Tryd.results98, hr]
  · have hn : ¬ (left - (l.length : Int) < 0) := by simpa using hc0
    refine DW.skip ?_
    refine DW.seq ?_
    refine DW.seq ?_
    refine DW.reg (by simp [w0]; rfl) ?_
    refine DW.block ?_
    refine DW.loopS (α := Nat) (fun i => i ≤ l.length ∧ 0 ≤ (left - (l.length : Int) + (i : Int) - (szL (l.take i) : Int))) (fun i => l.length - i) (fun i => [(5, vi i), (1, vi (left - (l.length : Int) + (i : Int) - (szL (l.take i) : Int)))]) (fun i => []) [(0, _)] [] [] 0 (⟨by omega, by simp; omega⟩) (by simp; exact rfl) (by simp) (by simp) (by rfl) ?_
    intro i hi
    obtain ⟨hi, hp⟩ := hi
    refine DW.seq ?_
    refine DW.seq ?_
    refine DW.reg (by simp [w0]; rfl) ?_
    refine DW.condB (by simp [w0]; exact rfl) (fun hc1 => ?_) (fun hc1 => ?_)
    · have hlt : i < l.length := by simpa using hc1
      have hd := rR_drop_Sealing l i hlt
      have hs := szL_at l i hlt
      have hst := szL_take l i hlt
      have hdl := szL_len (l.drop (i + 1))
      rw [List.length_drop] at hdl
      have hoc := okL_at ho i hlt
      have hlt' : (i : Int) < l.length := by omega
      have w1 : IntKind.i64.wrap ((i : Int) + 1) = ((i + 1 : Nat) : Int) := (wr _ (by omega) (by omega)).trans (by omega)
      generalize l[i] = c at hd hs hst hoc
      refine DW.skip ?_
      refine DW.seq ?_
      refine DW.block ?_
      refine DW.seq ?_
      refine DW.regs ?_
      refine RegO.opN 5 (by simp [w0, hd, hlt']; rfl) ?_
      refine RegO.step rfl (OpStep.callA rfl (by simp [w0, hd, hlt']; exact ⟨rfl, rfl⟩) (by simp [w0, hd, hlt']; rfl) (by exact szSealing_spec _ _ (by omega) (by omega) hoc) (by simp) (by simp [w0, hd, hlt']; rfl)) ?_
      refine RegO.opN 1 (by simp [w0, hd, hlt']; rfl) ?_
      refine RegO.nil ?_
      refine DW.seq ?_
      refine DW.reg (by simp [w0]; rfl) ?_
      refine DW.condB (by simp [w0]; exact rfl) (fun hc2 => ?_) (fun hc2 => ?_)
      · have hn : (left - (l.length : Int) + (i : Int) - (szL (l.take i) : Int)) - (Row.sz c : Int) < 0 := by simpa using hc2
        have hr : szr (left - (szL l : Int)) = -1 := szr_neg (by omega)
        refine DW.seq ?_
        refine DW.reg (by simp [w0]; rfl) ?_
        refine DW.ret ?_
        simp [Tryd.results98, hr]
      · have hn : ¬ ((left - (l.length : Int) + (i : Int) - (szL (l.take i) : Int)) - (Row.sz c : Int) < 0) := by simpa using hc2
        have hq : szr ((left - (l.length : Int) + (i : Int) - (szL (l.take i) : Int)) - (Row.sz c : Int)) = (left - (l.length : Int) + ((i + 1 : Nat) : Int) - (szL (l.take (i + 1)) : Int)) := by rw [szr_pos (by omega)]; omega
        refine DW.skip ?_
        refine DW.reg (by simp [w0, w1, hq]; rfl) ?_
        exact ⟨i + 1, ⟨hlt, by omega⟩, by omega, by simp [hq], by simp, by simp, by rfl⟩
    · have hil : i = l.length := by
        have : ¬ i < l.length := by simpa using hc1
        omega
      subst hil
      rw [List.take_length] at hp
      have hr : szr (left - (szL l : Int)) = left - (l.length : Int) + (l.length : Int) - (szL l : Int) := by rw [szr_pos (by omega)]; omega
      refine DW.exit ?_
      refine DW.seq ?_
      refine DW.reg (by simp [w0]; rfl) ?_
      refine DW.ret ?_
      simp [Tryd.results98, hr]
theorem szJob_spec (a : Job) (left : Int) (h0 : 0 ≤ left) (h1 : left ≤ 1099511627776) (ho : Row.ok 281474976710656 a) : Spec Tryd.prog 132 [raJob a, ri left] [none] [di (szr (left - (Row.sz a : Int)))] [raJob a, ri left] := by
  refine Spec.intro Tryd.func132 rfl rfl Tryd.ntmps132 rfl (by simp) ?_
  have hz := Job_sz a
  rw [Job_ok] at ho
  obtain ⟨o0, o1, o2, o3, _⟩ := ho
  have w0 : True := trivial
  refine DW.seq ?_
  refine DW.reg (by simp; rfl) ?_
  refine DW.seq ?_
  refine DW.regs ?_
  refine RegO.opN 3 (by simp; rfl) ?_
  refine RegO.step rfl (OpStep.callA rfl (by simp; exact ⟨rfl, rfl⟩) (by simp; rfl) (by exact szAsk_spec _ _ (by omega) (by omega) o0) (by simp) (by simp; rfl)) ?_
  refine RegO.opN 1 (by simp; rfl) ?_
  refine RegO.nil ?_
  refine DW.seq ?_
  refine DW.seq ?_
  refine DW.reg (by simp; rfl) ?_
  refine DW.condB (by simp; exact rfl) (fun hc0 => ?_) (fun hc0 => ?_)
  · have q0 : True := trivial
    have w1 : True := trivial
    have hn0 : left - (Row.sz a.Ask : Int) < 0 := by simpa using hc0
    have hr : szr (left - (Row.sz a : Int)) = -1 := szr_neg (by omega)
    refine DW.seq ?_
    refine DW.reg (by simp [q0]; rfl) ?_
    refine DW.ret ?_
    simp [Tryd.results132, hr]
  · have hn0 : ¬ (left - (Row.sz a.Ask : Int) < 0) := by simpa using hc0
    have q0 : szr (left - (Row.sz a.Ask : Int)) = left - (Row.sz a.Ask : Int) := szr_pos (by omega)
    refine DW.skip ?_
    refine DW.seq ?_
    refine DW.regs ?_
    refine RegO.opN 3 (by simp [q0]; rfl) ?_
    refine RegO.step rfl (OpStep.callA rfl (by simp [q0]; exact ⟨rfl, rfl⟩) (by simp [q0]; rfl) (by exact szResult_spec _ _ (by omega) (by omega) o1) (by simp) (by simp [q0]; rfl)) ?_
    refine RegO.opN 1 (by simp [q0]; rfl) ?_
    refine RegO.nil ?_
    refine DW.seq ?_
    refine DW.seq ?_
    refine DW.reg (by simp [q0]; rfl) ?_
    refine DW.condB (by simp [q0]; exact rfl) (fun hc1 => ?_) (fun hc1 => ?_)
    · have q1 : True := trivial
      have w2 : True := trivial
      have hn1 : left - (Row.sz a.Ask : Int) - (Row.sz a.Result : Int) < 0 := by simpa using hc1
      have hr : szr (left - (Row.sz a : Int)) = -1 := szr_neg (by omega)
      refine DW.seq ?_
      refine DW.reg (by simp [q0, q1]; rfl) ?_
      refine DW.ret ?_
      simp [Tryd.results132, hr]
    · have hn1 : ¬ (left - (Row.sz a.Ask : Int) - (Row.sz a.Result : Int) < 0) := by simpa using hc1
      have q1 : szr (left - (Row.sz a.Ask : Int) - (Row.sz a.Result : Int)) = left - (Row.sz a.Ask : Int) - (Row.sz a.Result : Int) := szr_pos (by omega)
      refine DW.skip ?_
      refine DW.seq ?_
      refine DW.regs ?_
      refine RegO.opN 3 (by simp [q0, q1]; rfl) ?_
      refine RegO.step rfl (OpStep.callA rfl (by simp [q0, q1]; exact ⟨rfl, rfl⟩) (by simp [q0, q1]; rfl) (by exact szStepS_spec _ _ (by omega) (by omega) o2) (by simp) (by simp [q0, q1]; rfl)) ?_
      refine RegO.opN 1 (by simp [q0, q1]; rfl) ?_
      refine RegO.nil ?_
      refine DW.seq ?_
      refine DW.seq ?_
      refine DW.reg (by simp [q0, q1]; rfl) ?_
      refine DW.condB (by simp [q0, q1]; exact rfl) (fun hc2 => ?_) (fun hc2 => ?_)
      · have q2 : True := trivial
        have w3 : True := trivial
        have hn2 : left - (Row.sz a.Ask : Int) - (Row.sz a.Result : Int) - (szL a.Steps : Int) < 0 := by simpa using hc2
        have hr : szr (left - (Row.sz a : Int)) = -1 := szr_neg (by omega)
        refine DW.seq ?_
        refine DW.reg (by simp [q0, q1, q2]; rfl) ?_
        refine DW.ret ?_
        simp [Tryd.results132, hr]
      · have hn2 : ¬ (left - (Row.sz a.Ask : Int) - (Row.sz a.Result : Int) - (szL a.Steps : Int) < 0) := by simpa using hc2
        have q2 : szr (left - (Row.sz a.Ask : Int) - (Row.sz a.Result : Int) - (szL a.Steps : Int)) = left - (Row.sz a.Ask : Int) - (Row.sz a.Result : Int) - (szL a.Steps : Int) := szr_pos (by omega)
        refine DW.skip ?_
        refine DW.seq ?_
        refine DW.regs ?_
        refine RegO.opN 3 (by simp [q0, q1, q2]; rfl) ?_
        refine RegO.step rfl (OpStep.callA rfl (by simp [q0, q1, q2]; exact ⟨rfl, rfl⟩) (by simp [q0, q1, q2]; rfl) (by exact szSealingS_spec _ _ (by omega) (by omega) o3) (by simp) (by simp [q0, q1, q2]; rfl)) ?_
        refine RegO.opN 1 (by simp [q0, q1, q2]; rfl) ?_
        refine RegO.nil ?_
        refine DW.seq ?_
        refine DW.seq ?_
        refine DW.reg (by simp [q0, q1, q2]; rfl) ?_
        refine DW.condB (by simp [q0, q1, q2]; exact rfl) (fun hc3 => ?_) (fun hc3 => ?_)
        · have q3 : True := trivial
          have w4 : True := trivial
          have hn3 : left - (Row.sz a.Ask : Int) - (Row.sz a.Result : Int) - (szL a.Steps : Int) - (szL a.Seals : Int) < 0 := by simpa using hc3
          have hr : szr (left - (Row.sz a : Int)) = -1 := szr_neg (by omega)
          refine DW.seq ?_
          refine DW.reg (by simp [q0, q1, q2, q3]; rfl) ?_
          refine DW.ret ?_
          simp [Tryd.results132, hr]
        · have hn3 : ¬ (left - (Row.sz a.Ask : Int) - (Row.sz a.Result : Int) - (szL a.Steps : Int) - (szL a.Seals : Int) < 0) := by simpa using hc3
          have q3 : szr (left - (Row.sz a.Ask : Int) - (Row.sz a.Result : Int) - (szL a.Steps : Int) - (szL a.Seals : Int)) = left - (Row.sz a.Ask : Int) - (Row.sz a.Result : Int) - (szL a.Steps : Int) - (szL a.Seals : Int) := szr_pos (by omega)
          have hr : szr (left - (Row.sz a : Int)) = left - (Row.sz a.Ask : Int) - (Row.sz a.Result : Int) - (szL a.Steps : Int) - (szL a.Seals : Int) := by rw [szr_pos (by omega)]; omega
          refine DW.skip ?_
          refine DW.seq ?_
          refine DW.reg (by simp [q0, q1, q2, q3]; rfl) ?_
          refine DW.ret ?_
          simp [Tryd.results132, hr]
theorem szJobS_spec (l : List Job) (left : Int) (h0 : 0 ≤ left) (h1 : left ≤ 1099511627776) (ho : okL 281474976710656 l) : Spec Tryd.prog 97 [ra l, ri left] [none] [di (szr (left - (szL l : Int)))] [ra l, ri left] := by
  refine Spec.intro Tryd.func97 rfl rfl Tryd.ntmps97 rfl (by simp) ?_
  have hll := szL_len l
  have hl := ho.1
  have w0 : IntKind.i64.wrap (left - (l.length : Int)) = left - (l.length : Int) := wr _ (by omega) (by omega)
  refine DW.seq ?_
  refine DW.reg (by simp [w0]; rfl) ?_
  refine DW.seq ?_
  refine DW.reg (by simp [w0]; rfl) ?_
  refine DW.seq ?_
  refine DW.seq ?_
  refine DW.reg (by simp [w0]; rfl) ?_
  refine DW.condB (by simp [w0]; exact rfl) (fun hc0 => ?_) (fun hc0 => ?_)
  · have hn : left - (l.length : Int) < 0 := by simpa using hc0
    have hr : szr (left - (szL l : Int)) = -1 := szr_neg (by omega)
    refine DW.seq ?_
    refine DW.reg (by simp [w0]; rfl) ?_
    refine DW.ret ?_
    simp [Tryd.results97, hr]
  · have hn : ¬ (left - (l.length : Int) < 0) := by simpa using hc0
    refine DW.skip ?_
    refine DW.seq ?_
    refine DW.seq ?_
    refine DW.reg (by simp [w0]; rfl) ?_
    refine DW.block ?_
    refine DW.loopS (α := Nat) (fun i => i ≤ l.length ∧ 0 ≤ (left - (l.length : Int) + (i : Int) - (szL (l.take i) : Int))) (fun i => l.length - i) (fun i => [(5, vi i), (1, vi (left - (l.length : Int) + (i : Int) - (szL (l.take i) : Int)))]) (fun i => []) [(0, _)] [] [] 0 (⟨by omega, by simp; omega⟩) (by simp; exact rfl) (by simp) (by simp) (by rfl) ?_
    intro i hi
    obtain ⟨hi, hp⟩ := hi
    refine DW.seq ?_
    refine DW.seq ?_
    refine DW.reg (by simp [w0]; rfl) ?_
    refine DW.condB (by simp [w0]; exact rfl) (fun hc1 => ?_) (fun hc1 => ?_)
    · have hlt : i < l.length := by simpa using hc1
      have hd := rR_drop_Job l i hlt
      have hs := szL_at l i hlt
      have hst := szL_take l i hlt
      have hdl := szL_len (l.drop (i + 1))
      rw [List.length_drop] at hdl
      have hoc := okL_at ho i hlt
      have hlt' : (i : Int) < l.length := by omega
      have w1 : IntKind.i64.wrap ((i : Int) + 1) = ((i + 1 : Nat) : Int) := (wr _ (by omega) (by omega)).trans (by omega)
      generalize l[i] = c at hd hs hst hoc
      refine DW.skip ?_
      refine DW.seq ?_
      refine DW.block ?_
      refine DW.seq ?_
      refine DW.regs ?_
      refine RegO.opN 5 (by simp [w0, hd, hlt']; rfl) ?_
      refine RegO.step rfl (OpStep.callA rfl (by simp [w0, hd, hlt']; exact ⟨rfl, rfl⟩) (by simp [w0, hd, hlt']; rfl) (by exact szJob_spec _ _ (by omega) (by omega) hoc) (by simp) (by simp [w0, hd, hlt']; rfl)) ?_
      refine RegO.opN 1 (by simp [w0, hd, hlt']; rfl) ?_
      refine RegO.nil ?_
      refine DW.seq ?_
      refine DW.reg (by simp [w0]; rfl) ?_
      refine DW.condB (by simp [w0]; exact rfl) (fun hc2 => ?_) (fun hc2 => ?_)
      · have hn : (left - (l.length : Int) + (i : Int) - (szL (l.take i) : Int)) - (Row.sz c : Int) < 0 := by simpa using hc2
        have hr : szr (left - (szL l : Int)) = -1 := szr_neg (by omega)
        refine DW.seq ?_
        refine DW.reg (by simp [w0]; rfl) ?_
        refine DW.ret ?_
        simp [Tryd.results97, hr]
      · have hn : ¬ ((left - (l.length : Int) + (i : Int) - (szL (l.take i) : Int)) - (Row.sz c : Int) < 0) := by simpa using hc2
        have hq : szr ((left - (l.length : Int) + (i : Int) - (szL (l.take i) : Int)) - (Row.sz c : Int)) = (left - (l.length : Int) + ((i + 1 : Nat) : Int) - (szL (l.take (i + 1)) : Int)) := by rw [szr_pos (by omega)]; omega
        refine DW.skip ?_
        refine DW.reg (by simp [w0, w1, hq]; rfl) ?_
        exact ⟨i + 1, ⟨hlt, by omega⟩, by omega, by simp [hq], by simp, by simp, by rfl⟩
    · have hil : i = l.length := by
        have : ¬ i < l.length := by simpa using hc1
        omega
      subst hil
      rw [List.take_length] at hp
      have hr : szr (left - (szL l : Int)) = left - (l.length : Int) + (l.length : Int) - (szL l : Int) := by rw [szr_pos (by omega)]; omega
      refine DW.exit ?_
      refine DW.seq ?_
      refine DW.reg (by simp [w0]; rfl) ?_
      refine DW.ret ?_
      simp [Tryd.results97, hr]
theorem szSystem_spec (a : System) (left : Int) (h0 : 0 ≤ left) (h1 : left ≤ 1099511627776) (ho : Row.ok 281474976710656 a) : Spec Tryd.prog 63 [raSystem a, ri left] [none] [di (szr (left - (Row.sz a : Int)))] [raSystem a, ri left] := by
  refine Spec.intro Tryd.func63 rfl rfl Tryd.ntmps63 rfl (by simp) ?_
  have hz := System_sz a
  rw [System_ok] at ho
  have huGeo := Geo_sz a.Geo
  obtain ⟨_, o0, o1, o2⟩ := ho
  have w0 : True := trivial
  refine DW.seq ?_
  refine DW.reg (by simp; rfl) ?_
  refine DW.seq ?_
  refine DW.regs ?_
  refine RegO.opN 3 (by simp; rfl) ?_
  refine RegO.step rfl (OpStep.callA rfl (by simp; exact ⟨rfl, rfl⟩) (by simp; rfl) (by exact szMemory_spec _ _ (by omega) (by omega) o0) (by simp) (by simp; rfl)) ?_
  refine RegO.opN 1 (by simp; rfl) ?_
  refine RegO.nil ?_
  refine DW.seq ?_
  refine DW.seq ?_
  refine DW.reg (by simp; rfl) ?_
  refine DW.condB (by simp; exact rfl) (fun hc0 => ?_) (fun hc0 => ?_)
  · have q0 : True := trivial
    have w1 : True := trivial
    have hn0 : left - (Row.sz a.Memory : Int) < 0 := by simpa using hc0
    have hr : szr (left - (Row.sz a : Int)) = -1 := szr_neg (by omega)
    refine DW.seq ?_
    refine DW.reg (by simp [q0]; rfl) ?_
    refine DW.ret ?_
    simp [Tryd.results63, hr]
  · have hn0 : ¬ (left - (Row.sz a.Memory : Int) < 0) := by simpa using hc0
    have q0 : szr (left - (Row.sz a.Memory : Int)) = left - (Row.sz a.Memory : Int) := szr_pos (by omega)
    refine DW.skip ?_
    refine DW.seq ?_
    refine DW.regs ?_
    refine RegO.opN 3 (by simp [q0]; rfl) ?_
    refine RegO.step rfl (OpStep.callA rfl (by simp [q0]; exact ⟨rfl, rfl⟩) (by simp [q0]; rfl) (by exact szJobS_spec _ _ (by omega) (by omega) o1) (by simp) (by simp [q0]; rfl)) ?_
    refine RegO.opN 1 (by simp [q0]; rfl) ?_
    refine RegO.nil ?_
    refine DW.seq ?_
    refine DW.seq ?_
    refine DW.reg (by simp [q0]; rfl) ?_
    refine DW.condB (by simp [q0]; exact rfl) (fun hc1 => ?_) (fun hc1 => ?_)
    · have q1 : True := trivial
      have w2 : True := trivial
      have hn1 : left - (Row.sz a.Memory : Int) - (szL a.Jobs : Int) < 0 := by simpa using hc1
      have hr : szr (left - (Row.sz a : Int)) = -1 := szr_neg (by omega)
      refine DW.seq ?_
      refine DW.reg (by simp [q0, q1]; rfl) ?_
      refine DW.ret ?_
      simp [Tryd.results63, hr]
    · have hn1 : ¬ (left - (Row.sz a.Memory : Int) - (szL a.Jobs : Int) < 0) := by simpa using hc1
      have q1 : szr (left - (Row.sz a.Memory : Int) - (szL a.Jobs : Int)) = left - (Row.sz a.Memory : Int) - (szL a.Jobs : Int) := szr_pos (by omega)
      refine DW.skip ?_
      refine DW.seq ?_
      refine DW.regs ?_
      refine RegO.opN 3 (by simp [q0, q1]; rfl) ?_
      refine RegO.step rfl (OpStep.callA rfl (by simp [q0, q1]; exact ⟨rfl, rfl⟩) (by simp [q0, q1]; rfl) (by exact szSealingS_spec _ _ (by omega) (by omega) o2) (by simp) (by simp [q0, q1]; rfl)) ?_
      refine RegO.opN 1 (by simp [q0, q1]; rfl) ?_
      refine RegO.nil ?_
      refine DW.seq ?_
      refine DW.seq ?_
      refine DW.reg (by simp [q0, q1]; rfl) ?_
      refine DW.condB (by simp [q0, q1]; exact rfl) (fun hc2 => ?_) (fun hc2 => ?_)
      · have q2 : True := trivial
        have w3 : True := trivial
        have hn2 : left - (Row.sz a.Memory : Int) - (szL a.Jobs : Int) - (szL a.Seals : Int) < 0 := by simpa using hc2
        have hr : szr (left - (Row.sz a : Int)) = -1 := szr_neg (by omega)
        refine DW.seq ?_
        refine DW.reg (by simp [q0, q1, q2]; rfl) ?_
        refine DW.ret ?_
        simp [Tryd.results63, hr]
      · have hn2 : ¬ (left - (Row.sz a.Memory : Int) - (szL a.Jobs : Int) - (szL a.Seals : Int) < 0) := by simpa using hc2
        have q2 : szr (left - (Row.sz a.Memory : Int) - (szL a.Jobs : Int) - (szL a.Seals : Int)) = left - (Row.sz a.Memory : Int) - (szL a.Jobs : Int) - (szL a.Seals : Int) := szr_pos (by omega)
        have hr : szr (left - (Row.sz a : Int)) = left - (Row.sz a.Memory : Int) - (szL a.Jobs : Int) - (szL a.Seals : Int) := by rw [szr_pos (by omega)]; omega
        refine DW.skip ?_
        refine DW.seq ?_
        refine DW.reg (by simp [q0, q1, q2]; rfl) ?_
        refine DW.ret ?_
        simp [Tryd.results63, hr]
theorem szItem_spec (a : Item) (left : Int) (h0 : 0 ≤ left) (h1 : left ≤ 1099511627776) (ho : Row.ok 281474976710656 a) : Spec Tryd.prog 171 [raItem a, ri left] [none] [di (szr (left - (Row.sz a : Int)))] [raItem a, ri left] := by
  refine Spec.intro Tryd.func171 rfl rfl Tryd.ntmps171 rfl (by simp) ?_
  have hz := Item_sz a
  rw [Item_ok] at ho
  obtain ⟨o0, o1⟩ := ho
  have w0 : IntKind.i64.wrap (left - (a.Path.size : Int)) = left - (a.Path.size : Int) := wr _ (by omega) (by omega)
  refine DW.seq ?_
  refine DW.reg (by simp [w0]; rfl) ?_
  refine DW.seq ?_
  refine DW.reg (by simp [w0]; rfl) ?_
  refine DW.seq ?_
  refine DW.seq ?_
  refine DW.reg (by simp [w0]; rfl) ?_
  refine DW.condB (by simp [w0]; exact rfl) (fun hc0 => ?_) (fun hc0 => ?_)
  · have q0 : True := trivial
    have w1 : True := trivial
    have hn0 : left - (a.Path.size : Int) < 0 := by simpa using hc0
    have hr : szr (left - (Row.sz a : Int)) = -1 := szr_neg (by omega)
    refine DW.seq ?_
    refine DW.reg (by simp [q0, w0, w1]; rfl) ?_
    refine DW.ret ?_
    simp [Tryd.results171, hr]
  · have hn0 : ¬ (left - (a.Path.size : Int) < 0) := by simpa using hc0
    have q0 : szr (left - (a.Path.size : Int)) = left - (a.Path.size : Int) := szr_pos (by omega)
    have w1 : IntKind.i64.wrap (left - (a.Path.size : Int) - (a.Text.size : Int)) = left - (a.Path.size : Int) - (a.Text.size : Int) := wr _ (by omega) (by omega)
    refine DW.skip ?_
    refine DW.seq ?_
    refine DW.reg (by simp [q0, w0, w1]; rfl) ?_
    refine DW.seq ?_
    refine DW.seq ?_
    refine DW.reg (by simp [q0, w0, w1]; rfl) ?_
    refine DW.condB (by simp [q0, w0, w1]; exact rfl) (fun hc1 => ?_) (fun hc1 => ?_)
    · have q1 : True := trivial
      have w2 : True := trivial
      have hn1 : left - (a.Path.size : Int) - (a.Text.size : Int) < 0 := by simpa using hc1
      have hr : szr (left - (Row.sz a : Int)) = -1 := szr_neg (by omega)
      refine DW.seq ?_
      refine DW.reg (by simp [q0, q1, w0, w1]; rfl) ?_
      refine DW.ret ?_
      simp [Tryd.results171, hr]
    · have hn1 : ¬ (left - (a.Path.size : Int) - (a.Text.size : Int) < 0) := by simpa using hc1
      have q1 : szr (left - (a.Path.size : Int) - (a.Text.size : Int)) = left - (a.Path.size : Int) - (a.Text.size : Int) := szr_pos (by omega)
      have hr : szr (left - (Row.sz a : Int)) = left - (a.Path.size : Int) - (a.Text.size : Int) := by rw [szr_pos (by omega)]; omega
      refine DW.skip ?_
      refine DW.seq ?_
      refine DW.reg (by simp [q0, q1, w0, w1]; rfl) ?_
      refine DW.ret ?_
      simp [Tryd.results171, hr]
theorem szItemS_spec (l : List Item) (left : Int) (h0 : 0 ≤ left) (h1 : left ≤ 1099511627776) (ho : okL 281474976710656 l) : Spec Tryd.prog 134 [ra l, ri left] [none] [di (szr (left - (szL l : Int)))] [ra l, ri left] := by
  refine Spec.intro Tryd.func134 rfl rfl Tryd.ntmps134 rfl (by simp) ?_
  have hll := szL_len l
  have hl := ho.1
  have w0 : IntKind.i64.wrap (left - (l.length : Int)) = left - (l.length : Int) := wr _ (by omega) (by omega)
  refine DW.seq ?_
  refine DW.reg (by simp [w0]; rfl) ?_
  refine DW.seq ?_
  refine DW.reg (by simp [w0]; rfl) ?_
  refine DW.seq ?_
  refine DW.seq ?_
  refine DW.reg (by simp [w0]; rfl) ?_
  refine DW.condB (by simp [w0]; exact rfl) (fun hc0 => ?_) (fun hc0 => ?_)
  · have hn : left - (l.length : Int) < 0 := by simpa using hc0
    have hr : szr (left - (szL l : Int)) = -1 := szr_neg (by omega)
    refine DW.seq ?_
    refine DW.reg (by simp [w0]; rfl) ?_
    refine DW.ret ?_
    simp [Tryd.results134, hr]
  · have hn : ¬ (left - (l.length : Int) < 0) := by simpa using hc0
    refine DW.skip ?_
    refine DW.seq ?_
    refine DW.seq ?_
    refine DW.reg (by simp [w0]; rfl) ?_
    refine DW.block ?_
    refine DW.loopS (α := Nat) (fun i => i ≤ l.length ∧ 0 ≤ (left - (l.length : Int) + (i : Int) - (szL (l.take i) : Int))) (fun i => l.length - i) (fun i => [(5, vi i), (1, vi (left - (l.length : Int) + (i : Int) - (szL (l.take i) : Int)))]) (fun i => []) [(0, _)] [] [] 0 (⟨by omega, by simp; omega⟩) (by simp; exact rfl) (by simp) (by simp) (by rfl) ?_
    intro i hi
    obtain ⟨hi, hp⟩ := hi
    refine DW.seq ?_
    refine DW.seq ?_
    refine DW.reg (by simp [w0]; rfl) ?_
    refine DW.condB (by simp [w0]; exact rfl) (fun hc1 => ?_) (fun hc1 => ?_)
    · have hlt : i < l.length := by simpa using hc1
      have hd := rR_drop_Item l i hlt
      have hs := szL_at l i hlt
      have hst := szL_take l i hlt
      have hdl := szL_len (l.drop (i + 1))
      rw [List.length_drop] at hdl
      have hoc := okL_at ho i hlt
      have hlt' : (i : Int) < l.length := by omega
      have w1 : IntKind.i64.wrap ((i : Int) + 1) = ((i + 1 : Nat) : Int) := (wr _ (by omega) (by omega)).trans (by omega)
      generalize l[i] = c at hd hs hst hoc
      refine DW.skip ?_
      refine DW.seq ?_
      refine DW.block ?_
      refine DW.seq ?_
      refine DW.regs ?_
      refine RegO.opN 5 (by simp [w0, hd, hlt']; rfl) ?_
      refine RegO.step rfl (OpStep.callA rfl (by simp [w0, hd, hlt']; exact ⟨rfl, rfl⟩) (by simp [w0, hd, hlt']; rfl) (by exact szItem_spec _ _ (by omega) (by omega) hoc) (by simp) (by simp [w0, hd, hlt']; rfl)) ?_
      refine RegO.opN 1 (by simp [w0, hd, hlt']; rfl) ?_
      refine RegO.nil ?_
      refine DW.seq ?_
      refine DW.reg (by simp [w0]; rfl) ?_
      refine DW.condB (by simp [w0]; exact rfl) (fun hc2 => ?_) (fun hc2 => ?_)
      · have hn : (left - (l.length : Int) + (i : Int) - (szL (l.take i) : Int)) - (Row.sz c : Int) < 0 := by simpa using hc2
        have hr : szr (left - (szL l : Int)) = -1 := szr_neg (by omega)
        refine DW.seq ?_
        refine DW.reg (by simp [w0]; rfl) ?_
        refine DW.ret ?_
        simp [Tryd.results134, hr]
      · have hn : ¬ ((left - (l.length : Int) + (i : Int) - (szL (l.take i) : Int)) - (Row.sz c : Int) < 0) := by simpa using hc2
        have hq : szr ((left - (l.length : Int) + (i : Int) - (szL (l.take i) : Int)) - (Row.sz c : Int)) = (left - (l.length : Int) + ((i + 1 : Nat) : Int) - (szL (l.take (i + 1)) : Int)) := by rw [szr_pos (by omega)]; omega
        refine DW.skip ?_
        refine DW.reg (by simp [w0, w1, hq]; rfl) ?_
        exact ⟨i + 1, ⟨hlt, by omega⟩, by omega, by simp [hq], by simp, by simp, by rfl⟩
    · have hil : i = l.length := by
        have : ¬ i < l.length := by simpa using hc1
        omega
      subst hil
      rw [List.take_length] at hp
      have hr : szr (left - (szL l : Int)) = left - (l.length : Int) + (l.length : Int) - (szL l : Int) := by rw [szr_pos (by omega)]; omega
      refine DW.exit ?_
      refine DW.seq ?_
      refine DW.reg (by simp [w0]; rfl) ?_
      refine DW.ret ?_
      simp [Tryd.results134, hr]
theorem szView_spec (a : View) (left : Int) (h0 : 0 ≤ left) (h1 : left ≤ 1099511627776) (ho : Row.ok 281474976710656 a) : Spec Tryd.prog 99 [raView a, ri left] [none] [di (szr (left - (Row.sz a : Int)))] [raView a, ri left] := by
  refine Spec.intro Tryd.func99 rfl rfl Tryd.ntmps99 rfl (by simp) ?_
  have hz := View_sz a
  rw [View_ok] at ho
  have o0 := ho
  have w0 : True := trivial
  refine DW.seq ?_
  refine DW.reg (by simp; rfl) ?_
  refine DW.seq ?_
  refine DW.regs ?_
  refine RegO.opN 3 (by simp; rfl) ?_
  refine RegO.step rfl (OpStep.callA rfl (by simp; exact ⟨rfl, rfl⟩) (by simp; rfl) (by exact szItemS_spec _ _ (by omega) (by omega) o0) (by simp) (by simp; rfl)) ?_
  refine RegO.opN 1 (by simp; rfl) ?_
  refine RegO.nil ?_
  refine DW.seq ?_
  refine DW.seq ?_
  refine DW.reg (by simp; rfl) ?_
  refine DW.condB (by simp; exact rfl) (fun hc0 => ?_) (fun hc0 => ?_)
  · have q0 : True := trivial
    have w1 : True := trivial
    have hn0 : left - (szL a.Items : Int) < 0 := by simpa using hc0
    have hr : szr (left - (Row.sz a : Int)) = -1 := szr_neg (by omega)
    refine DW.seq ?_
    refine DW.reg (by simp [q0]; rfl) ?_
    refine DW.ret ?_
    simp [Tryd.results99, hr]
  · have hn0 : ¬ (left - (szL a.Items : Int) < 0) := by simpa using hc0
    have q0 : szr (left - (szL a.Items : Int)) = left - (szL a.Items : Int) := szr_pos (by omega)
    have hr : szr (left - (Row.sz a : Int)) = left - (szL a.Items : Int) := by rw [szr_pos (by omega)]; omega
    refine DW.skip ?_
    refine DW.seq ?_
    refine DW.reg (by simp [q0]; rfl) ?_
    refine DW.ret ?_
    simp [Tryd.results99, hr]
theorem szViewS_spec (l : List View) (left : Int) (h0 : 0 ≤ left) (h1 : left ≤ 1099511627776) (ho : okL 281474976710656 l) : Spec Tryd.prog 64 [ra l, ri left] [none] [di (szr (left - (szL l : Int)))] [ra l, ri left] := by
  refine Spec.intro Tryd.func64 rfl rfl Tryd.ntmps64 rfl (by simp) ?_
  have hll := szL_len l
  have hl := ho.1
  have w0 : IntKind.i64.wrap (left - (l.length : Int)) = left - (l.length : Int) := wr _ (by omega) (by omega)
  refine DW.seq ?_
  refine DW.reg (by simp [w0]; rfl) ?_
  refine DW.seq ?_
  refine DW.reg (by simp [w0]; rfl) ?_
  refine DW.seq ?_
  refine DW.seq ?_
  refine DW.reg (by simp [w0]; rfl) ?_
  refine DW.condB (by simp [w0]; exact rfl) (fun hc0 => ?_) (fun hc0 => ?_)
  · have hn : left - (l.length : Int) < 0 := by simpa using hc0
    have hr : szr (left - (szL l : Int)) = -1 := szr_neg (by omega)
    refine DW.seq ?_
    refine DW.reg (by simp [w0]; rfl) ?_
    refine DW.ret ?_
    simp [Tryd.results64, hr]
  · have hn : ¬ (left - (l.length : Int) < 0) := by simpa using hc0
    refine DW.skip ?_
    refine DW.seq ?_
    refine DW.seq ?_
    refine DW.reg (by simp [w0]; rfl) ?_
    refine DW.block ?_
    refine DW.loopS (α := Nat) (fun i => i ≤ l.length ∧ 0 ≤ (left - (l.length : Int) + (i : Int) - (szL (l.take i) : Int))) (fun i => l.length - i) (fun i => [(5, vi i), (1, vi (left - (l.length : Int) + (i : Int) - (szL (l.take i) : Int)))]) (fun i => []) [(0, _)] [] [] 0 (⟨by omega, by simp; omega⟩) (by simp; exact rfl) (by simp) (by simp) (by rfl) ?_
    intro i hi
    obtain ⟨hi, hp⟩ := hi
    refine DW.seq ?_
    refine DW.seq ?_
    refine DW.reg (by simp [w0]; rfl) ?_
    refine DW.condB (by simp [w0]; exact rfl) (fun hc1 => ?_) (fun hc1 => ?_)
    · have hlt : i < l.length := by simpa using hc1
      have hd := rR_drop_View l i hlt
      simp only [Nat.mul_one] at hd
      have hs := szL_at l i hlt
      have hst := szL_take l i hlt
      have hdl := szL_len (l.drop (i + 1))
      rw [List.length_drop] at hdl
      have hoc := okL_at ho i hlt
      have hlt' : (i : Int) < l.length := by omega
      have w1 : IntKind.i64.wrap ((i : Int) + 1) = ((i + 1 : Nat) : Int) := (wr _ (by omega) (by omega)).trans (by omega)
      generalize l[i] = c at hd hs hst hoc
      refine DW.skip ?_
      refine DW.seq ?_
      refine DW.block ?_
      refine DW.seq ?_
      refine DW.regs ?_
      refine RegO.opN 5 (by simp [w0, hd, hlt']; rfl) ?_
      refine RegO.step rfl (OpStep.callA rfl (by simp [w0, hd, hlt']; exact ⟨rfl, rfl⟩) (by simp [w0, hd, hlt']; rfl) (by exact szView_spec _ _ (by omega) (by omega) hoc) (by simp) (by simp [w0, hd, hlt']; rfl)) ?_
      refine RegO.opN 1 (by simp [w0, hd, hlt']; rfl) ?_
      refine RegO.nil ?_
      refine DW.seq ?_
      refine DW.reg (by simp [w0]; rfl) ?_
      refine DW.condB (by simp [w0]; exact rfl) (fun hc2 => ?_) (fun hc2 => ?_)
      · have hn : (left - (l.length : Int) + (i : Int) - (szL (l.take i) : Int)) - (Row.sz c : Int) < 0 := by simpa using hc2
        have hr : szr (left - (szL l : Int)) = -1 := szr_neg (by omega)
        refine DW.seq ?_
        refine DW.reg (by simp [w0]; rfl) ?_
        refine DW.ret ?_
        simp [Tryd.results64, hr]
      · have hn : ¬ ((left - (l.length : Int) + (i : Int) - (szL (l.take i) : Int)) - (Row.sz c : Int) < 0) := by simpa using hc2
        have hq : szr ((left - (l.length : Int) + (i : Int) - (szL (l.take i) : Int)) - (Row.sz c : Int)) = (left - (l.length : Int) + ((i + 1 : Nat) : Int) - (szL (l.take (i + 1)) : Int)) := by rw [szr_pos (by omega)]; omega
        refine DW.skip ?_
        refine DW.reg (by simp [w0, w1, hq]; rfl) ?_
        exact ⟨i + 1, ⟨hlt, by omega⟩, by omega, by simp [hq], by simp, by simp, by rfl⟩
    · have hil : i = l.length := by
        have : ¬ i < l.length := by simpa using hc1
        omega
      subst hil
      rw [List.take_length] at hp
      have hr : szr (left - (szL l : Int)) = left - (l.length : Int) + (l.length : Int) - (szL l : Int) := by rw [szr_pos (by omega)]; omega
      refine DW.exit ?_
      refine DW.seq ?_
      refine DW.reg (by simp [w0]; rfl) ?_
      refine DW.ret ?_
      simp [Tryd.results64, hr]
theorem szWorld_spec (a : World) (left : Int) (h0 : 0 ≤ left) (h1 : left ≤ 1099511627776) (ho : Row.ok 281474976710656 a) : Spec Tryd.prog 23 [raWorld a, ri left] [none] [di (szr (left - (Row.sz a : Int)))] [raWorld a, ri left] := by
  refine Spec.intro Tryd.func23 rfl rfl Tryd.ntmps23 rfl (by simp) ?_
  have hz := World_sz a
  rw [World_ok] at ho
  obtain ⟨o0, o1, o2, _⟩ := ho
  have w0 : True := trivial
  refine DW.seq ?_
  refine DW.reg (by simp; rfl) ?_
  refine DW.seq ?_
  refine DW.regs ?_
  refine RegO.opN 3 (by simp; rfl) ?_
  refine RegO.step rfl (OpStep.callA rfl (by simp; exact ⟨rfl, rfl⟩) (by simp; rfl) (by exact szSystem_spec _ _ (by omega) (by omega) o0) (by simp) (by simp; rfl)) ?_
  refine RegO.opN 1 (by simp; rfl) ?_
  refine RegO.nil ?_
  refine DW.seq ?_
  refine DW.seq ?_
  refine DW.reg (by simp; rfl) ?_
  refine DW.condB (by simp; exact rfl) (fun hc0 => ?_) (fun hc0 => ?_)
  · have q0 : True := trivial
    have w1 : True := trivial
    have hn0 : left - (Row.sz a.System : Int) < 0 := by simpa using hc0
    have hr : szr (left - (Row.sz a : Int)) = -1 := szr_neg (by omega)
    refine DW.seq ?_
    refine DW.reg (by simp [q0]; rfl) ?_
    refine DW.ret ?_
    simp [Tryd.results23, hr]
  · have hn0 : ¬ (left - (Row.sz a.System : Int) < 0) := by simpa using hc0
    have q0 : szr (left - (Row.sz a.System : Int)) = left - (Row.sz a.System : Int) := szr_pos (by omega)
    refine DW.skip ?_
    refine DW.seq ?_
    refine DW.regs ?_
    refine RegO.opN 3 (by simp [q0]; rfl) ?_
    refine RegO.step rfl (OpStep.callA rfl (by simp [q0]; exact ⟨rfl, rfl⟩) (by simp [q0]; rfl) (by exact szViewS_spec _ _ (by omega) (by omega) o1) (by simp) (by simp [q0]; rfl)) ?_
    refine RegO.opN 1 (by simp [q0]; rfl) ?_
    refine RegO.nil ?_
    refine DW.seq ?_
    refine DW.seq ?_
    refine DW.reg (by simp [q0]; rfl) ?_
    refine DW.condB (by simp [q0]; exact rfl) (fun hc1 => ?_) (fun hc1 => ?_)
    · have q1 : True := trivial
      have w2 : True := trivial
      have hn1 : left - (Row.sz a.System : Int) - (szL a.Views : Int) < 0 := by simpa using hc1
      have hr : szr (left - (Row.sz a : Int)) = -1 := szr_neg (by omega)
      refine DW.seq ?_
      refine DW.reg (by simp [q0, q1]; rfl) ?_
      refine DW.ret ?_
      simp [Tryd.results23, hr]
    · have hn1 : ¬ (left - (Row.sz a.System : Int) - (szL a.Views : Int) < 0) := by simpa using hc1
      have q1 : szr (left - (Row.sz a.System : Int) - (szL a.Views : Int)) = left - (Row.sz a.System : Int) - (szL a.Views : Int) := szr_pos (by omega)
      refine DW.skip ?_
      refine DW.seq ?_
      refine DW.regs ?_
      refine RegO.opN 3 (by simp [q0, q1]; rfl) ?_
      refine RegO.step rfl (OpStep.callA rfl (by simp [q0, q1]; exact ⟨rfl, rfl⟩) (by simp [q0, q1]; rfl) (by exact szViewS_spec _ _ (by omega) (by omega) o2) (by simp) (by simp [q0, q1]; rfl)) ?_
      refine RegO.opN 1 (by simp [q0, q1]; rfl) ?_
      refine RegO.nil ?_
      refine DW.seq ?_
      refine DW.seq ?_
      refine DW.reg (by simp [q0, q1]; rfl) ?_
      refine DW.condB (by simp [q0, q1]; exact rfl) (fun hc2 => ?_) (fun hc2 => ?_)
      · have q2 : True := trivial
        have w3 : True := trivial
        have hn2 : left - (Row.sz a.System : Int) - (szL a.Views : Int) - (szL a.Hoped : Int) < 0 := by simpa using hc2
        have hr : szr (left - (Row.sz a : Int)) = -1 := szr_neg (by omega)
        refine DW.seq ?_
        refine DW.reg (by simp [q0, q1, q2]; rfl) ?_
        refine DW.ret ?_
        simp [Tryd.results23, hr]
      · have hn2 : ¬ (left - (Row.sz a.System : Int) - (szL a.Views : Int) - (szL a.Hoped : Int) < 0) := by simpa using hc2
        have q2 : szr (left - (Row.sz a.System : Int) - (szL a.Views : Int) - (szL a.Hoped : Int)) = left - (Row.sz a.System : Int) - (szL a.Views : Int) - (szL a.Hoped : Int) := szr_pos (by omega)
        have hr : szr (left - (Row.sz a : Int)) = left - (Row.sz a.System : Int) - (szL a.Views : Int) - (szL a.Hoped : Int) := by rw [szr_pos (by omega)]; omega
        refine DW.skip ?_
        refine DW.seq ?_
        refine DW.reg (by simp [q0, q1, q2]; rfl) ?_
        refine DW.ret ?_
        simp [Tryd.results23, hr]
theorem toGeo_spec (a : Geo) (h : Row.sz a ≤ 2 ^ 36) : Spec Tryd.prog 100 [raGeo a] [some 4] (Geo.d a) [raGeo a] := by
  refine Spec.intro Tryd.func100 rfl rfl Tryd.ntmps100 rfl (by simp) ?_
  have hz := Geo_sz a
  refine DW.seq ?_
  refine DW.reg (by simp; rfl) ?_
  refine DW.seq ?_
  refine DW.reg (by simp; rfl) ?_
  refine DW.seq ?_
  refine DW.reg (by simp; rfl) ?_
  refine DW.seq ?_
  refine DW.reg (by simp; rfl) ?_
  refine DW.seq ?_
  refine DW.reg (by simp; rfl) ?_
  refine DW.seq ?_
  refine DW.reg (by simp; rfl) ?_
  refine DW.seq ?_
  refine DW.reg (by simp; rfl) ?_
  refine DW.ret ?_
  simp [Tryd.results100]
theorem toCell_spec (a : Cell) (h : Row.sz a ≤ 2 ^ 36) : Spec Tryd.prog 172 [raCell a] [some 3] (Cell.d a) [raCell a] := by
  refine Spec.intro Tryd.func172 rfl rfl Tryd.ntmps172 rfl (by simp) ?_
  have hz := Cell_sz a
  refine DW.seq ?_
  refine DW.reg (by simp; rfl) ?_
  refine DW.seq ?_
  refine DW.reg (by simp; rfl) ?_
  refine DW.seq ?_
  refine DW.reg (by simp; rfl) ?_
  refine DW.seq ?_
  refine DW.reg (by simp; rfl) ?_
  refine DW.seq ?_
  refine DW.reg (by simp; rfl) ?_
  refine DW.seq ?_
  refine DW.reg (by simp; rfl) ?_
  refine DW.ret ?_
  simp [Tryd.results172]
theorem toCellS_spec (l : List Cell) (h : szL l ≤ 2 ^ 36) : Spec Tryd.prog 135 [ra l] [none] [dr l] [ra l] := by
  refine Spec.intro Tryd.func135 rfl rfl Tryd.ntmps135 rfl (by simp) ?_
  have hll := szL_len l
  have hb1 : (32 : Int) * l.length ≤ 281474976710656 := by omega
  have hb2 : (l.length : Int) ≤ 281474976710656 := by omega
  refine DW.seq ?_
  refine DW.reg (by simp; rfl) ?_
  refine DW.seq ?_
  refine DW.reg (by simp [hb1, hb2]; rfl) ?_
  refine DW.seq ?_
  refine DW.seq ?_
  refine DW.reg (by simp; rfl) ?_
  refine DW.block ?_
  refine DW.loopS (α := Nat) (fun i => i ≤ l.length) (fun i => l.length - i) (fun i => [(4, vi i)]) (fun i => [(7, .ow () 3 l.length (rD (l.take i) ++ (List.replicate (l.length - i) ([.sc (.int .i64 0), .sc (.string ByteArray.empty), .sc (.bool false)] : List D)).flatten))]) [(0, _), (3, _)] [] [] 0 (by simp) (by simp; exact ⟨rfl, rfl⟩) (by simp) (by simp) (by rfl) ?_
  intro i hi
  refine DW.seq ?_
  refine DW.seq ?_
  refine DW.reg (by simp; rfl) ?_
  refine DW.condB (by simp; exact rfl) (fun hc0 => ?_) (fun hc0 => ?_)
  · have hlt : i < l.length := by simpa using hc0
    have hd := rR_drop_Cell l i hlt
    have hs := szL_at l i hlt
    have hlt' : (i : Int) < l.length := by omega
    have w1 : IntKind.i64.wrap ((i : Int) + 1) = ((i + 1 : Nat) : Int) := (wr _ (by omega) (by omega)).trans (by omega)
    have hA : (rD (l.take i)).length = i * 3 := by rw [rD_len_Cell, List.length_take, Nat.min_eq_left (by omega)]
    have hz1 : (List.replicate (l.length - i) ([.sc (.int .i64 0), .sc (.string ByteArray.empty), .sc (.bool false)] : List D)).flatten = [.sc (.int .i64 0), .sc (.string ByteArray.empty), .sc (.bool false)] ++ (List.replicate (l.length - (i + 1)) ([.sc (.int .i64 0), .sc (.string ByteArray.empty), .sc (.bool false)] : List D)).flatten := by rw [show l.length - i = (l.length - (i + 1)) + 1 by omega, List.replicate_succ, List.flatten_cons]
    have hz2 : rD (l.take (i + 1)) = rD (l.take i) ++ Row.d l[i] := by rw [take_succ' l i hlt, rD_append]; simp [rD]
    simp only [Row.d] at hz2
    generalize l[i] = c at hd hs hz2
    refine DW.skip ?_
    refine DW.seq ?_
    refine DW.block ?_
    refine DW.regs ?_
    refine RegO.opN 6 (by simp [hd, hlt', hz1, app_get hA, app_get0 hA, app_set hA, app_set0 hA, Nat.add_assoc]; rfl) ?_
    refine RegO.step rfl (OpStep.callA rfl (by simp [hd, hlt', hz1, app_get hA, app_get0 hA, app_set hA, app_set0 hA, Nat.add_assoc]; exact ⟨rfl, rfl⟩) (by simp [hd, hlt', hz1, app_get hA, app_get0 hA, app_set hA, app_set0 hA, Nat.add_assoc]; rfl) (by exact toCell_spec _ (by omega)) (by simp) (by simp [hd, hlt', hz1, app_get hA, app_get0 hA, app_set hA, app_set0 hA, Nat.add_assoc]; rfl)) ?_
    refine RegO.opN 2 (by simp [hd, hlt', hz1, app_get hA, app_get0 hA, app_set hA, app_set0 hA, Nat.add_assoc]; rfl) ?_
    refine RegO.nil ?_
    refine DW.reg (by simp [w1]; rfl) ?_
    exact ⟨i + 1, hlt, by omega, by simp, by simp [hz2], by simp, by rfl⟩
  · have hil : i = l.length := by
      have : ¬ i < l.length := by simpa using hc0
      omega
    subst hil
    refine DW.exit ?_
    refine DW.seq ?_
    refine DW.reg (by simp; rfl) ?_
    refine DW.ret ?_
    simp [Tryd.results135]
theorem toMemory_spec (a : Memory) (h : Row.sz a ≤ 2 ^ 36) : Spec Tryd.prog 101 [raMemory a] [some 2] (Memory.d a) [raMemory a] := by
  refine Spec.intro Tryd.func101 rfl rfl Tryd.ntmps101 rfl (by simp) ?_
  have hz := Memory_sz a
  refine DW.seq ?_
  refine DW.reg (by simp; rfl) ?_
  refine DW.seq ?_
  refine DW.reg (by simp; rfl) ?_
  refine DW.seq ?_
  refine DW.reg (by simp; rfl) ?_
  refine DW.seq ?_
  refine DW.regs ?_
  refine RegO.opN 2 (by simp; rfl) ?_
  refine RegO.step rfl (OpStep.callA rfl (by simp; exact ⟨rfl, rfl⟩) (by simp; rfl) (by exact toCellS_spec _ (by omega)) (by simp) (by simp; rfl)) ?_
  refine RegO.opN 2 (by simp; rfl) ?_
  refine RegO.nil ?_
  refine DW.seq ?_
  refine DW.reg (by simp; rfl) ?_
  refine DW.ret ?_
  simp [Tryd.results101]
theorem toAsk_spec (a : Ask) (h : Row.sz a ≤ 2 ^ 36) : Spec Tryd.prog 12 [raAsk a] [some 6] (Ask.d a) [raAsk a] := by
  refine Spec.intro Tryd.func12 rfl rfl Tryd.ntmps12 rfl (by simp) ?_
  have hz := Ask_sz a
  refine DW.seq ?_
  refine DW.reg (by simp; rfl) ?_
  refine DW.seq ?_
  refine DW.reg (by simp; rfl) ?_
  refine DW.seq ?_
  refine DW.reg (by simp; rfl) ?_
  refine DW.seq ?_
  refine DW.reg (by simp; rfl) ?_
  refine DW.seq ?_
  refine DW.reg (by simp; rfl) ?_
  refine DW.seq ?_
  refine DW.reg (by simp; rfl) ?_
  refine DW.seq ?_
  refine DW.reg (by simp; rfl) ?_
  refine DW.seq ?_
  refine DW.reg (by simp; rfl) ?_
  refine DW.seq ?_
  refine DW.reg (by simp; rfl) ?_
  refine DW.ret ?_
  simp [Tryd.results12]
theorem toStringS_spec (l : List ByteArray) (h : szL l ≤ 2 ^ 36) : Spec Tryd.prog 37 [ra l] [none] [dr l] [ra l] := by
  refine Spec.intro Tryd.func37 rfl rfl Tryd.ntmps37 rfl (by simp) ?_
  have hll := szL_len l
  have hb1 : (16 : Int) * l.length ≤ 281474976710656 := by omega
  have hb2 : (l.length : Int) ≤ 281474976710656 := by omega
  refine DW.seq ?_
  refine DW.reg (by simp; rfl) ?_
  refine DW.seq ?_
  refine DW.reg (by simp [hb1, hb2]; rfl) ?_
  refine DW.seq ?_
  refine DW.seq ?_
  refine DW.reg (by simp; rfl) ?_
  refine DW.block ?_
  refine DW.loopS (α := Nat) (fun i => i ≤ l.length) (fun i => l.length - i) (fun i => [(4, vi i)]) (fun i => [(7, .ow () 1 l.length (rD (l.take i) ++ List.replicate (l.length - i) (.sc (.string ByteArray.empty) : D)))]) [(0, _), (3, _)] [] [] 0 (by simp) (by simp; exact ⟨rfl, rfl⟩) (by simp) (by simp) (by rfl) ?_
  intro i hi
  refine DW.seq ?_
  refine DW.seq ?_
  refine DW.reg (by simp; rfl) ?_
  refine DW.condB (by simp; exact rfl) (fun hc0 => ?_) (fun hc0 => ?_)
  · have hlt : i < l.length := by simpa using hc0
    have hd := rR_get_ByteArray l i hlt
    have hs := szL_at l i hlt
    have hlt' : (i : Int) < l.length := by omega
    have w1 : IntKind.i64.wrap ((i : Int) + 1) = ((i + 1 : Nat) : Int) := (wr _ (by omega) (by omega)).trans (by omega)
    have hA : (rD (l.take i)).length = i := by rw [rD_len_ByteArray, List.length_take, Nat.min_eq_left (by omega)]; omega
    have hz1 : List.replicate (l.length - i) (.sc (.string ByteArray.empty) : D) = .sc (.string ByteArray.empty) :: List.replicate (l.length - (i + 1)) (.sc (.string ByteArray.empty) : D) := by rw [show l.length - i = (l.length - (i + 1)) + 1 by omega, List.replicate_succ]
    have hz2 : rD (l.take (i + 1)) = rD (l.take i) ++ Row.d l[i] := by rw [take_succ' l i hlt, rD_append]; simp [rD]
    simp only [Row.d] at hz2
    generalize l[i] = c at hd hs hz2
    refine DW.skip ?_
    refine DW.seq ?_
    refine DW.block ?_
    refine DW.reg (by simp [hd, hlt', hz1, app_get hA, app_get0 hA, app_set hA, app_set0 hA, Nat.add_assoc]; rfl) ?_
    refine DW.reg (by simp [w1]; rfl) ?_
    exact ⟨i + 1, hlt, by omega, by simp, by simp [hz2], by simp, by rfl⟩
  · have hil : i = l.length := by
      have : ¬ i < l.length := by simpa using hc0
      omega
    subst hil
    refine DW.exit ?_
    refine DW.seq ?_
    refine DW.reg (by simp; rfl) ?_
    refine DW.ret ?_
    simp [Tryd.results37]
theorem toResult_spec (a : Result) (h : Row.sz a ≤ 2 ^ 36) : Spec Tryd.prog 20 [raResult a] [some 5] (Result.d a) [raResult a] := by
  refine Spec.intro Tryd.func20 rfl rfl Tryd.ntmps20 rfl (by simp) ?_
  have hz := Result_sz a
  refine DW.seq ?_
  refine DW.reg (by simp; rfl) ?_
  refine DW.seq ?_
  refine DW.reg (by simp; rfl) ?_
  refine DW.seq ?_
  refine DW.reg (by simp; rfl) ?_
  refine DW.seq ?_
  refine DW.reg (by simp; rfl) ?_
  refine DW.seq ?_
  refine DW.reg (by simp; rfl) ?_
  refine DW.seq ?_
  refine DW.reg (by simp; rfl) ?_
  refine DW.seq ?_
  refine DW.regs ?_
  refine RegO.opN 2 (by simp; rfl) ?_
  refine RegO.step rfl (OpStep.callA rfl (by simp; exact ⟨rfl, rfl⟩) (by simp; rfl) (by exact toStringS_spec _ (by omega)) (by simp) (by simp; rfl)) ?_
  refine RegO.opN 2 (by simp; rfl) ?_
  refine RegO.nil ?_
  refine DW.seq ?_
  refine DW.reg (by simp; rfl) ?_
  refine DW.ret ?_
  simp [Tryd.results20]
theorem toStep_spec (a : Step) (h : Row.sz a ≤ 2 ^ 36) : Spec Tryd.prog 202 [raStep a] [some 3] (Step.d a) [raStep a] := by
  refine Spec.intro Tryd.func202 rfl rfl Tryd.ntmps202 rfl (by simp) ?_
  have hz := Step_sz a
  refine DW.seq ?_
  refine DW.reg (by simp; rfl) ?_
  refine DW.seq ?_
  refine DW.reg (by simp; rfl) ?_
  refine DW.seq ?_
  refine DW.reg (by simp; rfl) ?_
  refine DW.seq ?_
  refine DW.reg (by simp; rfl) ?_
  refine DW.seq ?_
  refine DW.reg (by simp; rfl) ?_
  refine DW.seq ?_
  refine DW.reg (by simp; rfl) ?_
  refine DW.ret ?_
  simp [Tryd.results202]
theorem toStepS_spec (l : List Step) (h : szL l ≤ 2 ^ 36) : Spec Tryd.prog 173 [ra l] [none] [dr l] [ra l] := by
  refine Spec.intro Tryd.func173 rfl rfl Tryd.ntmps173 rfl (by simp) ?_
  have hll := szL_len l
  have hb1 : (32 : Int) * l.length ≤ 281474976710656 := by omega
  have hb2 : (l.length : Int) ≤ 281474976710656 := by omega
  refine DW.seq ?_
  refine DW.reg (by simp; rfl) ?_
  refine DW.seq ?_
  refine DW.reg (by simp [hb1, hb2]; rfl) ?_
  refine DW.seq ?_
  refine DW.seq ?_
  refine DW.reg (by simp; rfl) ?_
  refine DW.block ?_
  refine DW.loopS (α := Nat) (fun i => i ≤ l.length) (fun i => l.length - i) (fun i => [(4, vi i)]) (fun i => [(7, .ow () 3 l.length (rD (l.take i) ++ (List.replicate (l.length - i) ([.sc (.int .i64 0), .sc (.int .i64 0), .sc (.string ByteArray.empty)] : List D)).flatten))]) [(0, _), (3, _)] [] [] 0 (by simp) (by simp; exact ⟨rfl, rfl⟩) (by simp) (by simp) (by rfl) ?_
  intro i hi
  refine DW.seq ?_
  refine DW.seq ?_
  refine DW.reg (by simp; rfl) ?_
  refine DW.condB (by simp; exact rfl) (fun hc0 => ?_) (fun hc0 => ?_)
  · have hlt : i < l.length := by simpa using hc0
    have hd := rR_drop_Step l i hlt
    have hs := szL_at l i hlt
    have hlt' : (i : Int) < l.length := by omega
    have w1 : IntKind.i64.wrap ((i : Int) + 1) = ((i + 1 : Nat) : Int) := (wr _ (by omega) (by omega)).trans (by omega)
    have hA : (rD (l.take i)).length = i * 3 := by rw [rD_len_Step, List.length_take, Nat.min_eq_left (by omega)]
    have hz1 : (List.replicate (l.length - i) ([.sc (.int .i64 0), .sc (.int .i64 0), .sc (.string ByteArray.empty)] : List D)).flatten = [.sc (.int .i64 0), .sc (.int .i64 0), .sc (.string ByteArray.empty)] ++ (List.replicate (l.length - (i + 1)) ([.sc (.int .i64 0), .sc (.int .i64 0), .sc (.string ByteArray.empty)] : List D)).flatten := by rw [show l.length - i = (l.length - (i + 1)) + 1 by omega, List.replicate_succ, List.flatten_cons]
    have hz2 : rD (l.take (i + 1)) = rD (l.take i) ++ Row.d l[i] := by rw [take_succ' l i hlt, rD_append]; simp [rD]
    simp only [Row.d] at hz2
    generalize l[i] = c at hd hs hz2
    refine DW.skip ?_
    refine DW.seq ?_
    refine DW.block ?_
    refine DW.regs ?_
    refine RegO.opN 6 (by simp [hd, hlt', hz1, app_get hA, app_get0 hA, app_set hA, app_set0 hA, Nat.add_assoc]; rfl) ?_
    refine RegO.step rfl (OpStep.callA rfl (by simp [hd, hlt', hz1, app_get hA, app_get0 hA, app_set hA, app_set0 hA, Nat.add_assoc]; exact ⟨rfl, rfl⟩) (by simp [hd, hlt', hz1, app_get hA, app_get0 hA, app_set hA, app_set0 hA, Nat.add_assoc]; rfl) (by exact toStep_spec _ (by omega)) (by simp) (by simp [hd, hlt', hz1, app_get hA, app_get0 hA, app_set hA, app_set0 hA, Nat.add_assoc]; rfl)) ?_
    refine RegO.opN 2 (by simp [hd, hlt', hz1, app_get hA, app_get0 hA, app_set hA, app_set0 hA, Nat.add_assoc]; rfl) ?_
    refine RegO.nil ?_
    refine DW.reg (by simp [w1]; rfl) ?_
    exact ⟨i + 1, hlt, by omega, by simp, by simp [hz2], by simp, by rfl⟩
  · have hil : i = l.length := by
      have : ¬ i < l.length := by simpa using hc0
      omega
    subst hil
    refine DW.exit ?_
    refine DW.seq ?_
    refine DW.reg (by simp; rfl) ?_
    refine DW.ret ?_
    simp [Tryd.results173]
theorem toSealing_spec (a : Sealing) (h : Row.sz a ≤ 2 ^ 36) : Spec Tryd.prog 137 [raSealing a] [some 3] (Sealing.d a) [raSealing a] := by
  refine Spec.intro Tryd.func137 rfl rfl Tryd.ntmps137 rfl (by simp) ?_
  have hz := Sealing_sz a
  refine DW.seq ?_
  refine DW.reg (by simp; rfl) ?_
  refine DW.seq ?_
  refine DW.reg (by simp; rfl) ?_
  refine DW.seq ?_
  refine DW.reg (by simp; rfl) ?_
  refine DW.seq ?_
  refine DW.reg (by simp; rfl) ?_
  refine DW.seq ?_
  refine DW.reg (by simp; rfl) ?_
  refine DW.seq ?_
  refine DW.reg (by simp; rfl) ?_
  refine DW.ret ?_
  simp [Tryd.results137]
theorem toSealingS_spec (l : List Sealing) (h : szL l ≤ 2 ^ 36) : Spec Tryd.prog 103 [ra l] [none] [dr l] [ra l] := by
  refine Spec.intro Tryd.func103 rfl rfl Tryd.ntmps103 rfl (by simp) ?_
  have hll := szL_len l
  have hb1 : (48 : Int) * l.length ≤ 281474976710656 := by omega
  have hb2 : (l.length : Int) ≤ 281474976710656 := by omega
  refine DW.seq ?_
  refine DW.reg (by simp; rfl) ?_
  refine DW.seq ?_
  refine DW.reg (by simp [hb1, hb2]; rfl) ?_
  refine DW.seq ?_
  refine DW.seq ?_
  refine DW.reg (by simp; rfl) ?_
  refine DW.block ?_
  refine DW.loopS (α := Nat) (fun i => i ≤ l.length) (fun i => l.length - i) (fun i => [(4, vi i)]) (fun i => [(7, .ow () 3 l.length (rD (l.take i) ++ (List.replicate (l.length - i) ([.sc (.string ByteArray.empty), .sc (.string ByteArray.empty), .sc (.string ByteArray.empty)] : List D)).flatten))]) [(0, _), (3, _)] [] [] 0 (by simp) (by simp; exact ⟨rfl, rfl⟩) (by simp) (by simp) (by rfl) ?_
  intro i hi
  refine DW.seq ?_
  refine DW.seq ?_
  refine DW.reg (by simp; rfl) ?_
  refine DW.condB (by simp; exact rfl) (fun hc0 => ?_) (fun hc0 => ?_)
  · have hlt : i < l.length := by simpa using hc0
    have hd := rR_drop_Sealing l i hlt
    have hs := szL_at l i hlt
    have hlt' : (i : Int) < l.length := by omega
    have w1 : IntKind.i64.wrap ((i : Int) + 1) = ((i + 1 : Nat) : Int) := (wr _ (by omega) (by omega)).trans (by omega)
    have hA : (rD (l.take i)).length = i * 3 := by rw [rD_len_Sealing, List.length_take, Nat.min_eq_left (by omega)]
    have hz1 : (List.replicate (l.length - i) ([.sc (.string ByteArray.empty), .sc (.string ByteArray.empty), .sc (.string ByteArray.empty)] : List D)).flatten = [.sc (.string ByteArray.empty), .sc (.string ByteArray.empty), .sc (.string ByteArray.empty)] ++ (List.replicate (l.length - (i + 1)) ([.sc (.string ByteArray.empty), .sc (.string ByteArray.empty), .sc (.string ByteArray.empty)] : List D)).flatten := by rw [show l.length - i = (l.length - (i + 1)) + 1 by omega, List.replicate_succ, List.flatten_cons]
    have hz2 : rD (l.take (i + 1)) = rD (l.take i) ++ Row.d l[i] := by rw [take_succ' l i hlt, rD_append]; simp [rD]
    simp only [Row.d] at hz2
    generalize l[i] = c at hd hs hz2
    refine DW.skip ?_
    refine DW.seq ?_
    refine DW.block ?_
    refine DW.regs ?_
    refine RegO.opN 6 (by simp [hd, hlt', hz1, app_get hA, app_get0 hA, app_set hA, app_set0 hA, Nat.add_assoc]; rfl) ?_
    refine RegO.step rfl (OpStep.callA rfl (by simp [hd, hlt', hz1, app_get hA, app_get0 hA, app_set hA, app_set0 hA, Nat.add_assoc]; exact ⟨rfl, rfl⟩) (by simp [hd, hlt', hz1, app_get hA, app_get0 hA, app_set hA, app_set0 hA, Nat.add_assoc]; rfl) (by exact toSealing_spec _ (by omega)) (by simp) (by simp [hd, hlt', hz1, app_get hA, app_get0 hA, app_set hA, app_set0 hA, Nat.add_assoc]; rfl)) ?_
    refine RegO.opN 2 (by simp [hd, hlt', hz1, app_get hA, app_get0 hA, app_set hA, app_set0 hA, Nat.add_assoc]; rfl) ?_
    refine RegO.nil ?_
    refine DW.reg (by simp [w1]; rfl) ?_
    exact ⟨i + 1, hlt, by omega, by simp, by simp [hz2], by simp, by rfl⟩
  · have hil : i = l.length := by
      have : ¬ i < l.length := by simpa using hc0
      omega
    subst hil
    refine DW.exit ?_
    refine DW.seq ?_
    refine DW.reg (by simp; rfl) ?_
    refine DW.ret ?_
    simp [Tryd.results103]
theorem toJob_spec (a : Job) (h : Row.sz a ≤ 2 ^ 36) : Spec Tryd.prog 136 [raJob a] [some 16] (Job.d a) [raJob a] := by
  refine Spec.intro Tryd.func136 rfl rfl Tryd.ntmps136 rfl (by simp) ?_
  have hz := Job_sz a
  refine DW.seq ?_
  refine DW.reg (by simp; rfl) ?_
  refine DW.seq ?_
  refine DW.reg (by simp; rfl) ?_
  refine DW.seq ?_
  refine DW.regs ?_
  refine RegO.opN 2 (by simp; rfl) ?_
  refine RegO.step rfl (OpStep.callA rfl (by simp; exact ⟨rfl, rfl⟩) (by simp; rfl) (by exact toAsk_spec _ (by omega)) (by simp) (by simp; rfl)) ?_
  refine RegO.opN 2 (by simp; rfl) ?_
  refine RegO.nil ?_
  refine DW.seq ?_
  refine DW.regs ?_
  refine RegO.opN 2 (by simp; rfl) ?_
  refine RegO.step rfl (OpStep.callA rfl (by simp; exact ⟨rfl, rfl⟩) (by simp; rfl) (by exact toResult_spec _ (by omega)) (by simp) (by simp; rfl)) ?_
  refine RegO.opN 2 (by simp; rfl) ?_
  refine RegO.nil ?_
  refine DW.seq ?_
  refine DW.regs ?_
  refine RegO.opN 2 (by simp; rfl) ?_
  refine RegO.step rfl (OpStep.callA rfl (by simp; exact ⟨rfl, rfl⟩) (by simp; rfl) (by exact toStepS_spec _ (by omega)) (by simp) (by simp; rfl)) ?_
  refine RegO.opN 2 (by simp; rfl) ?_
  refine RegO.nil ?_
  refine DW.seq ?_
  refine DW.regs ?_
  refine RegO.opN 2 (by simp; rfl) ?_
  refine RegO.step rfl (OpStep.callA rfl (by simp; exact ⟨rfl, rfl⟩) (by simp; rfl) (by exact toSealingS_spec _ (by omega)) (by simp) (by simp; rfl)) ?_
  refine RegO.opN 2 (by simp; rfl) ?_
  refine RegO.nil ?_
  refine DW.seq ?_
  refine DW.reg (by simp; rfl) ?_
  refine DW.seq ?_
  refine DW.reg (by simp; rfl) ?_
  refine DW.seq ?_
  refine DW.reg (by simp; rfl) ?_
  refine DW.seq ?_
  refine DW.reg (by simp; rfl) ?_
  refine DW.ret ?_
  simp [Tryd.results136]
theorem toJobS_spec (l : List Job) (h : szL l ≤ 2 ^ 36) : Spec Tryd.prog 102 [ra l] [none] [dr l] [ra l] := by
  refine Spec.intro Tryd.func102 rfl rfl Tryd.ntmps102 rfl (by simp) ?_
  have hll := szL_len l
  have hb1 : (200 : Int) * l.length ≤ 281474976710656 := by omega
  have hb2 : (l.length : Int) ≤ 281474976710656 := by omega
  refine DW.seq ?_
  refine DW.reg (by simp; rfl) ?_
  refine DW.seq ?_
  refine DW.reg (by simp [hb1, hb2]; rfl) ?_
  refine DW.seq ?_
  refine DW.seq ?_
  refine DW.reg (by simp; rfl) ?_
  refine DW.block ?_
  refine DW.loopS (α := Nat) (fun i => i ≤ l.length) (fun i => l.length - i) (fun i => [(4, vi i)]) (fun i => [(7, .ow () 16 l.length (rD (l.take i) ++ (List.replicate (l.length - i) ([.sc (.int .i64 0), .sc (.string ByteArray.empty), .sc (.string ByteArray.empty), .sc (.int .i64 0), .sc (.int .i64 0), .sc (.string ByteArray.empty), .sc (.int .i64 0), .sc (.string ByteArray.empty), .sc (.int .i64 0), .sc (.bool false), .ow () 0 0 [], .ow () 0 0 [], .ow () 0 0 [], .sc (.int .i64 0), .sc (.bool false), .sc (.bool false)] : List D)).flatten))]) [(0, _), (3, _)] [] [] 0 (by simp) (by simp; exact ⟨rfl, rfl⟩) (by simp) (by simp) (by rfl) ?_
  intro i hi
  refine DW.seq ?_
  refine DW.seq ?_
  refine DW.reg (by simp; rfl) ?_
  refine DW.condB (by simp; exact rfl) (fun hc0 => ?_) (fun hc0 => ?_)
  · have hlt : i < l.length := by simpa using hc0
    have hd := rR_drop_Job l i hlt
    have hs := szL_at l i hlt
    have hlt' : (i : Int) < l.length := by omega
    have w1 : IntKind.i64.wrap ((i : Int) + 1) = ((i + 1 : Nat) : Int) := (wr _ (by omega) (by omega)).trans (by omega)
    have hA : (rD (l.take i)).length = i * 16 := by rw [rD_len_Job, List.length_take, Nat.min_eq_left (by omega)]
    have hz1 : (List.replicate (l.length - i) ([.sc (.int .i64 0), .sc (.string ByteArray.empty), .sc (.string ByteArray.empty), .sc (.int .i64 0), .sc (.int .i64 0), .sc (.string ByteArray.empty), .sc (.int .i64 0), .sc (.string ByteArray.empty), .sc (.int .i64 0), .sc (.bool false), .ow () 0 0 [], .ow () 0 0 [], .ow () 0 0 [], .sc (.int .i64 0), .sc (.bool false), .sc (.bool false)] : List D)).flatten = [.sc (.int .i64 0), .sc (.string ByteArray.empty), .sc (.string ByteArray.empty), .sc (.int .i64 0), .sc (.int .i64 0), .sc (.string ByteArray.empty), .sc (.int .i64 0), .sc (.string ByteArray.empty), .sc (.int .i64 0), .sc (.bool false), .ow () 0 0 [], .ow () 0 0 [], .ow () 0 0 [], .sc (.int .i64 0), .sc (.bool false), .sc (.bool false)] ++ (List.replicate (l.length - (i + 1)) ([.sc (.int .i64 0), .sc (.string ByteArray.empty), .sc (.string ByteArray.empty), .sc (.int .i64 0), .sc (.int .i64 0), .sc (.string ByteArray.empty), .sc (.int .i64 0), .sc (.string ByteArray.empty), .sc (.int .i64 0), .sc (.bool false), .ow () 0 0 [], .ow () 0 0 [], .ow () 0 0 [], .sc (.int .i64 0), .sc (.bool false), .sc (.bool false)] : List D)).flatten := by rw [show l.length - i = (l.length - (i + 1)) + 1 by omega, List.replicate_succ, List.flatten_cons]
    have hz2 : rD (l.take (i + 1)) = rD (l.take i) ++ Row.d l[i] := by rw [take_succ' l i hlt, rD_append]; simp [rD]
    simp only [Row.d] at hz2
    generalize l[i] = c at hd hs hz2
    refine DW.skip ?_
    refine DW.seq ?_
    refine DW.block ?_
    refine DW.regs ?_
    refine RegO.opN 6 (by simp [hd, hlt', hz1, app_get hA, app_get0 hA, app_set hA, app_set0 hA, Nat.add_assoc]; rfl) ?_
    refine RegO.step rfl (OpStep.callA rfl (by simp [hd, hlt', hz1, app_get hA, app_get0 hA, app_set hA, app_set0 hA, Nat.add_assoc]; exact ⟨rfl, rfl⟩) (by simp [hd, hlt', hz1, app_get hA, app_get0 hA, app_set hA, app_set0 hA, Nat.add_assoc]; rfl) (by exact toJob_spec _ (by omega)) (by simp) (by simp [hd, hlt', hz1, app_get hA, app_get0 hA, app_set hA, app_set0 hA, Nat.add_assoc]; rfl)) ?_
    refine RegO.opN 2 (by simp [hd, hlt', hz1, app_get hA, app_get0 hA, app_set hA, app_set0 hA, Nat.add_assoc]; rfl) ?_
    refine RegO.nil ?_
    refine DW.reg (by simp [w1]; rfl) ?_
    exact ⟨i + 1, hlt, by omega, by simp, by simp [hz2], by simp, by rfl⟩
  · have hil : i = l.length := by
      have : ¬ i < l.length := by simpa using hc0
      omega
    subst hil
    refine DW.exit ?_
    refine DW.seq ?_
    refine DW.reg (by simp; rfl) ?_
    refine DW.ret ?_
    simp [Tryd.results102]
theorem toSystem_spec (a : System) (h : Row.sz a ≤ 2 ^ 36) : Spec Tryd.prog 65 [raSystem a] [some 8] (System.d a) [raSystem a] := by
  refine Spec.intro Tryd.func65 rfl rfl Tryd.ntmps65 rfl (by simp) ?_
  have hz := System_sz a
  refine DW.seq ?_
  refine DW.reg (by simp; rfl) ?_
  refine DW.seq ?_
  refine DW.reg (by simp; rfl) ?_
  refine DW.seq ?_
  refine DW.regs ?_
  refine RegO.opN 2 (by simp; rfl) ?_
  refine RegO.step rfl (OpStep.callA rfl (by simp; exact ⟨rfl, rfl⟩) (by simp; rfl) (by exact toGeo_spec _ (by omega)) (by simp) (by simp; rfl)) ?_
  refine RegO.opN 2 (by simp; rfl) ?_
  refine RegO.nil ?_
  refine DW.seq ?_
  refine DW.regs ?_
  refine RegO.opN 2 (by simp; rfl) ?_
  refine RegO.step rfl (OpStep.callA rfl (by simp; exact ⟨rfl, rfl⟩) (by simp; rfl) (by exact toMemory_spec _ (by omega)) (by simp) (by simp; rfl)) ?_
  refine RegO.opN 2 (by simp; rfl) ?_
  refine RegO.nil ?_
  refine DW.seq ?_
  refine DW.regs ?_
  refine RegO.opN 2 (by simp; rfl) ?_
  refine RegO.step rfl (OpStep.callA rfl (by simp; exact ⟨rfl, rfl⟩) (by simp; rfl) (by exact toJobS_spec _ (by omega)) (by simp) (by simp; rfl)) ?_
  refine RegO.opN 2 (by simp; rfl) ?_
  refine RegO.nil ?_
  refine DW.seq ?_
  refine DW.regs ?_
  refine RegO.opN 2 (by simp; rfl) ?_
  refine RegO.step rfl (OpStep.callA rfl (by simp; exact ⟨rfl, rfl⟩) (by simp; rfl) (by exact toSealingS_spec _ (by omega)) (by simp) (by simp; rfl)) ?_
  refine RegO.opN 2 (by simp; rfl) ?_
  refine RegO.nil ?_
  refine DW.seq ?_
  refine DW.reg (by simp; rfl) ?_
  refine DW.ret ?_
  simp [Tryd.results65]
theorem toItem_spec (a : Item) (h : Row.sz a ≤ 2 ^ 36) : Spec Tryd.prog 174 [raItem a] [some 3] (Item.d a) [raItem a] := by
  refine Spec.intro Tryd.func174 rfl rfl Tryd.ntmps174 rfl (by simp) ?_
  have hz := Item_sz a
  refine DW.seq ?_
  refine DW.reg (by simp; rfl) ?_
  refine DW.seq ?_
  refine DW.reg (by simp; rfl) ?_
  refine DW.seq ?_
  refine DW.reg (by simp; rfl) ?_
  refine DW.seq ?_
  refine DW.reg (by simp; rfl) ?_
  refine DW.seq ?_
  refine DW.reg (by simp; rfl) ?_
  refine DW.seq ?_
  refine DW.reg (by simp; rfl) ?_
  refine DW.ret ?_
  simp [Tryd.results174]
theorem toItemS_spec (l : List Item) (h : szL l ≤ 2 ^ 36) : Spec Tryd.prog 138 [ra l] [none] [dr l] [ra l] := by
  refine Spec.intro Tryd.func138 rfl rfl Tryd.ntmps138 rfl (by simp) ?_
  have hll := szL_len l
  have hb1 : (40 : Int) * l.length ≤ 281474976710656 := by omega
  have hb2 : (l.length : Int) ≤ 281474976710656 := by omega
  refine DW.seq ?_
  refine DW.reg (by simp; rfl) ?_
  refine DW.seq ?_
  refine DW.reg (by simp [hb1, hb2]; rfl) ?_
  refine DW.seq ?_
  refine DW.seq ?_
  refine DW.reg (by simp; rfl) ?_
  refine DW.block ?_
  refine DW.loopS (α := Nat) (fun i => i ≤ l.length) (fun i => l.length - i) (fun i => [(4, vi i)]) (fun i => [(7, .ow () 3 l.length (rD (l.take i) ++ (List.replicate (l.length - i) ([.sc (.string ByteArray.empty), .sc (.bool false), .sc (.string ByteArray.empty)] : List D)).flatten))]) [(0, _), (3, _)] [] [] 0 (by simp) (by simp; exact ⟨rfl, rfl⟩) (by simp) (by simp) (by rfl) ?_
  intro i hi
  refine DW.seq ?_
  refine DW.seq ?_
  refine DW.reg (by simp; rfl) ?_
  refine DW.condB (by simp; exact rfl) (fun hc0 => ?_) (fun hc0 => ?_)
  · have hlt : i < l.length := by simpa using hc0
    have hd := rR_drop_Item l i hlt
    have hs := szL_at l i hlt
    have hlt' : (i : Int) < l.length := by omega
    have w1 : IntKind.i64.wrap ((i : Int) + 1) = ((i + 1 : Nat) : Int) := (wr _ (by omega) (by omega)).trans (by omega)
    have hA : (rD (l.take i)).length = i * 3 := by rw [rD_len_Item, List.length_take, Nat.min_eq_left (by omega)]
    have hz1 : (List.replicate (l.length - i) ([.sc (.string ByteArray.empty), .sc (.bool false), .sc (.string ByteArray.empty)] : List D)).flatten = [.sc (.string ByteArray.empty), .sc (.bool false), .sc (.string ByteArray.empty)] ++ (List.replicate (l.length - (i + 1)) ([.sc (.string ByteArray.empty), .sc (.bool false), .sc (.string ByteArray.empty)] : List D)).flatten := by rw [show l.length - i = (l.length - (i + 1)) + 1 by omega, List.replicate_succ, List.flatten_cons]
    have hz2 : rD (l.take (i + 1)) = rD (l.take i) ++ Row.d l[i] := by rw [take_succ' l i hlt, rD_append]; simp [rD]
    simp only [Row.d] at hz2
    generalize l[i] = c at hd hs hz2
    refine DW.skip ?_
    refine DW.seq ?_
    refine DW.block ?_
    refine DW.regs ?_
    refine RegO.opN 6 (by simp [hd, hlt', hz1, app_get hA, app_get0 hA, app_set hA, app_set0 hA, Nat.add_assoc]; rfl) ?_
    refine RegO.step rfl (OpStep.callA rfl (by simp [hd, hlt', hz1, app_get hA, app_get0 hA, app_set hA, app_set0 hA, Nat.add_assoc]; exact ⟨rfl, rfl⟩) (by simp [hd, hlt', hz1, app_get hA, app_get0 hA, app_set hA, app_set0 hA, Nat.add_assoc]; rfl) (by exact toItem_spec _ (by omega)) (by simp) (by simp [hd, hlt', hz1, app_get hA, app_get0 hA, app_set hA, app_set0 hA, Nat.add_assoc]; rfl)) ?_
    refine RegO.opN 2 (by simp [hd, hlt', hz1, app_get hA, app_get0 hA, app_set hA, app_set0 hA, Nat.add_assoc]; rfl) ?_
    refine RegO.nil ?_
    refine DW.reg (by simp [w1]; rfl) ?_
    exact ⟨i + 1, hlt, by omega, by simp, by simp [hz2], by simp, by rfl⟩
  · have hil : i = l.length := by
      have : ¬ i < l.length := by simpa using hc0
      omega
    subst hil
    refine DW.exit ?_
    refine DW.seq ?_
    refine DW.reg (by simp; rfl) ?_
    refine DW.ret ?_
    simp [Tryd.results138]
theorem toView_spec (a : View) (h : Row.sz a ≤ 2 ^ 36) : Spec Tryd.prog 104 [raView a] [some 1] (View.d a) [raView a] := by
  refine Spec.intro Tryd.func104 rfl rfl Tryd.ntmps104 rfl (by simp) ?_
  have hz := View_sz a
  refine DW.seq ?_
  refine DW.reg (by simp; rfl) ?_
  refine DW.seq ?_
  refine DW.reg (by simp; rfl) ?_
  refine DW.seq ?_
  refine DW.regs ?_
  refine RegO.opN 2 (by simp; rfl) ?_
  refine RegO.step rfl (OpStep.callA rfl (by simp; exact ⟨rfl, rfl⟩) (by simp; rfl) (by exact toItemS_spec _ (by omega)) (by simp) (by simp; rfl)) ?_
  refine RegO.opN 2 (by simp; rfl) ?_
  refine RegO.nil ?_
  refine DW.seq ?_
  refine DW.reg (by simp; rfl) ?_
  refine DW.ret ?_
  simp [Tryd.results104]
theorem toViewS_spec (l : List View) (h : szL l ≤ 2 ^ 36) : Spec Tryd.prog 66 [ra l] [none] [dr l] [ra l] := by
  refine Spec.intro Tryd.func66 rfl rfl Tryd.ntmps66 rfl (by simp) ?_
  have hll := szL_len l
  have hb1 : (24 : Int) * l.length ≤ 281474976710656 := by omega
  have hb2 : (l.length : Int) ≤ 281474976710656 := by omega
  refine DW.seq ?_
  refine DW.reg (by simp; rfl) ?_
  refine DW.seq ?_
  refine DW.reg (by simp [hb1, hb2]; rfl) ?_
  refine DW.seq ?_
  refine DW.seq ?_
  refine DW.reg (by simp; rfl) ?_
  refine DW.block ?_
  refine DW.loopS (α := Nat) (fun i => i ≤ l.length) (fun i => l.length - i) (fun i => [(4, vi i)]) (fun i => [(7, .ow () 1 l.length (rD (l.take i) ++ List.replicate (l.length - i) (.ow () 0 0 [] : D)))]) [(0, _), (3, _)] [] [] 0 (by simp) (by simp; exact ⟨rfl, rfl⟩) (by simp) (by simp) (by rfl) ?_
  intro i hi
  refine DW.seq ?_
  refine DW.seq ?_
  refine DW.reg (by simp; rfl) ?_
  refine DW.condB (by simp; exact rfl) (fun hc0 => ?_) (fun hc0 => ?_)
  · have hlt : i < l.length := by simpa using hc0
    have hd := rR_drop_View l i hlt
    simp only [Nat.mul_one] at hd
    have hs := szL_at l i hlt
    have hlt' : (i : Int) < l.length := by omega
    have w1 : IntKind.i64.wrap ((i : Int) + 1) = ((i + 1 : Nat) : Int) := (wr _ (by omega) (by omega)).trans (by omega)
    have hA : (rD (l.take i)).length = i := by rw [rD_len_View, List.length_take, Nat.min_eq_left (by omega)]; omega
    have hz1 : List.replicate (l.length - i) (.ow () 0 0 [] : D) = .ow () 0 0 [] :: List.replicate (l.length - (i + 1)) (.ow () 0 0 [] : D) := by rw [show l.length - i = (l.length - (i + 1)) + 1 by omega, List.replicate_succ]
    have hz2 : rD (l.take (i + 1)) = rD (l.take i) ++ Row.d l[i] := by rw [take_succ' l i hlt, rD_append]; simp [rD]
    simp only [Row.d] at hz2
    generalize l[i] = c at hd hs hz2
    refine DW.skip ?_
    refine DW.seq ?_
    refine DW.block ?_
    refine DW.regs ?_
    refine RegO.opN 6 (by simp [hd, hlt', hz1, app_get hA, app_get0 hA, app_set hA, app_set0 hA, Nat.add_assoc]; rfl) ?_
    refine RegO.step rfl (OpStep.callA rfl (by simp [hd, hlt', hz1, app_get hA, app_get0 hA, app_set hA, app_set0 hA, Nat.add_assoc]; exact ⟨rfl, rfl⟩) (by simp [hd, hlt', hz1, app_get hA, app_get0 hA, app_set hA, app_set0 hA, Nat.add_assoc]; rfl) (by exact toView_spec _ (by omega)) (by simp) (by simp [hd, hlt', hz1, app_get hA, app_get0 hA, app_set hA, app_set0 hA, Nat.add_assoc]; rfl)) ?_
    refine RegO.opN 2 (by simp [hd, hlt', hz1, app_get hA, app_get0 hA, app_set hA, app_set0 hA, Nat.add_assoc]; rfl) ?_
    refine RegO.nil ?_
    refine DW.reg (by simp [w1]; rfl) ?_
    exact ⟨i + 1, hlt, by omega, by simp, by simp [hz2], by simp, by rfl⟩
  · have hil : i = l.length := by
      have : ¬ i < l.length := by simpa using hc0
      omega
    subst hil
    refine DW.exit ?_
    refine DW.seq ?_
    refine DW.reg (by simp; rfl) ?_
    refine DW.ret ?_
    simp [Tryd.results66]
theorem toWorld_spec (a : World) (h : Row.sz a ≤ 2 ^ 36) : Spec Tryd.prog 25 [raWorld a] [some 11] (World.d a) [raWorld a] := by
  refine Spec.intro Tryd.func25 rfl rfl Tryd.ntmps25 rfl (by simp) ?_
  have hz := World_sz a
  refine DW.seq ?_
  refine DW.reg (by simp; rfl) ?_
  refine DW.seq ?_
  refine DW.reg (by simp; rfl) ?_
  refine DW.seq ?_
  refine DW.regs ?_
  refine RegO.opN 2 (by simp; rfl) ?_
  refine RegO.step rfl (OpStep.callA rfl (by simp; exact ⟨rfl, rfl⟩) (by simp; rfl) (by exact toSystem_spec _ (by omega)) (by simp) (by simp; rfl)) ?_
  refine RegO.opN 2 (by simp; rfl) ?_
  refine RegO.nil ?_
  refine DW.seq ?_
  refine DW.regs ?_
  refine RegO.opN 2 (by simp; rfl) ?_
  refine RegO.step rfl (OpStep.callA rfl (by simp; exact ⟨rfl, rfl⟩) (by simp; rfl) (by exact toViewS_spec _ (by omega)) (by simp) (by simp; rfl)) ?_
  refine RegO.opN 2 (by simp; rfl) ?_
  refine RegO.nil ?_
  refine DW.seq ?_
  refine DW.regs ?_
  refine RegO.opN 2 (by simp; rfl) ?_
  refine RegO.step rfl (OpStep.callA rfl (by simp; exact ⟨rfl, rfl⟩) (by simp; rfl) (by exact toViewS_spec _ (by omega)) (by simp) (by simp; rfl)) ?_
  refine RegO.opN 2 (by simp; rfl) ?_
  refine RegO.nil ?_
  refine DW.seq ?_
  refine DW.reg (by simp; rfl) ?_
  refine DW.seq ?_
  refine DW.reg (by simp; rfl) ?_
  refine DW.ret ?_
  simp [Tryd.results25]
theorem eqStringS_spec (l : List ByteArray) (h : szL l ≤ 2 ^ 36) : Spec Tryd.prog 27 [ra l, ra l] [none] [db true] [ra l, ra l] := by
  refine Spec.intro Tryd.func27 rfl rfl Tryd.ntmps27 rfl (by simp) ?_
  have hll := szL_len l
  refine DW.seq ?_
  refine DW.reg (by simp; rfl) ?_
  refine DW.seq ?_
  refine DW.seq ?_
  refine DW.reg (by simp; rfl) ?_
  refine DW.condF (by simp) ?_
  refine DW.skip ?_
  refine DW.seq ?_
  refine DW.seq ?_
  refine DW.reg (by simp; rfl) ?_
  refine DW.block ?_
  refine DW.loopS (α := Nat) (fun i => i ≤ l.length) (fun i => l.length - i) (fun i => [(5, vi i)]) (fun i => []) [(0, _), (1, _)] [] [] 0 (by simp) (by simp; exact ⟨rfl, rfl⟩) (by simp) (by simp) (by rfl) ?_
  intro i hi
  refine DW.seq ?_
  refine DW.seq ?_
  refine DW.reg (by simp; rfl) ?_
  refine DW.condB (by simp; exact rfl) (fun hc1 => ?_) (fun hc1 => ?_)
  · have hlt : i < l.length := by simpa using hc1
    have hd := rR_get_ByteArray l i hlt
    have hs := szL_at l i hlt
    have hlt' : (i : Int) < l.length := by omega
    have w1 : IntKind.i64.wrap ((i : Int) + 1) = ((i + 1 : Nat) : Int) := (wr _ (by omega) (by omega)).trans (by omega)
    generalize l[i] = c at hd hs
    refine DW.skip ?_
    refine DW.seq ?_
    refine DW.block ?_
    refine DW.seq ?_
    refine DW.drawn mixed (by kernel_rfl) ?_
    refine RegD.addN 9 (by simp [hd, hlt']; (first | done | exact ⟨rfl, rfl⟩ | rfl)) ?_
    refine RegD.nil ⟨by kernel_rfl, ?_⟩
    refine DW.condF (by simp) ?_
    refine DW.skip ?_
    refine DW.reg (by simp [w1]; rfl) ?_
    exact ⟨i + 1, hlt, by omega, by simp, by simp, by simp, by rfl⟩
  · refine DW.exit ?_
    refine DW.seq ?_
    refine DW.reg (by simp; rfl) ?_
    refine DW.ret ?_
    simp [Tryd.results27]
theorem eqGeo_spec (a : Geo) (h : Row.sz a ≤ 2 ^ 36) : Spec Tryd.prog 34 [raGeo a, raGeo a] [none] [db true] [raGeo a, raGeo a] := by
  refine Spec.intro Tryd.func34 rfl rfl Tryd.ntmps34 rfl (by simp) ?_
  have hz := Geo_sz a
  refine DW.seq ?_
  refine DW.reg (by simp; rfl) ?_
  refine DW.seq ?_
  refine DW.seq ?_
  refine DW.reg (by simp; rfl) ?_
  refine DW.condF (by simp) ?_
  refine DW.skip ?_
  refine DW.seq ?_
  refine DW.seq ?_
  refine DW.reg (by simp; rfl) ?_
  refine DW.condF (by simp) ?_
  refine DW.skip ?_
  refine DW.seq ?_
  refine DW.seq ?_
  refine DW.reg (by simp; rfl) ?_
  refine DW.condF (by simp) ?_
  refine DW.skip ?_
  refine DW.seq ?_
  refine DW.seq ?_
  refine DW.reg (by simp; rfl) ?_
  refine DW.condF (by simp) ?_
  refine DW.skip ?_
  refine DW.seq ?_
  refine DW.reg (by simp; rfl) ?_
  refine DW.ret ?_
  simp [Tryd.results34]
theorem eqCell_spec (a : Cell) (h : Row.sz a ≤ 2 ^ 36) : Spec Tryd.prog 175 [raCell a, raCell a] [none] [db true] [raCell a, raCell a] := by
  refine Spec.intro Tryd.func175 rfl rfl Tryd.ntmps175 rfl (by simp) ?_
  have hz := Cell_sz a
  refine DW.seq ?_
  refine DW.reg (by simp; rfl) ?_
  refine DW.seq ?_
  refine DW.seq ?_
  refine DW.reg (by simp; rfl) ?_
  refine DW.condF (by simp) ?_
  refine DW.skip ?_
  refine DW.seq ?_
  refine DW.seq ?_
  refine DW.reg (by simp; rfl) ?_
  refine DW.condF (by simp) ?_
  refine DW.skip ?_
  refine DW.seq ?_
  refine DW.seq ?_
  refine DW.reg (by simp; rfl) ?_
  refine DW.condF (by simp) ?_
  refine DW.skip ?_
  refine DW.seq ?_
  refine DW.reg (by simp; rfl) ?_
  refine DW.ret ?_
  simp [Tryd.results175]
theorem eqCellS_spec (l : List Cell) (h : szL l ≤ 2 ^ 36) : Spec Tryd.prog 139 [ra l, ra l] [none] [db true] [ra l, ra l] := by
  refine Spec.intro Tryd.func139 rfl rfl Tryd.ntmps139 rfl (by simp) ?_
  have hll := szL_len l
  refine DW.seq ?_
  refine DW.reg (by simp; rfl) ?_
  refine DW.seq ?_
  refine DW.seq ?_
  refine DW.reg (by simp; rfl) ?_
  refine DW.condF (by simp) ?_
  refine DW.skip ?_
  refine DW.seq ?_
  refine DW.seq ?_
  refine DW.reg (by simp; rfl) ?_
  refine DW.block ?_
  refine DW.loopS (α := Nat) (fun i => i ≤ l.length) (fun i => l.length - i) (fun i => [(5, vi i)]) (fun i => []) [(0, _), (1, _)] [] [] 0 (by simp) (by simp; exact ⟨rfl, rfl⟩) (by simp) (by simp) (by rfl) ?_
  intro i hi
  refine DW.seq ?_
  refine DW.seq ?_
  refine DW.reg (by simp; rfl) ?_
  refine DW.condB (by simp; exact rfl) (fun hc1 => ?_) (fun hc1 => ?_)
  · have hlt : i < l.length := by simpa using hc1
    have hd := rR_drop_Cell l i hlt
    have hs := szL_at l i hlt
    have hlt' : (i : Int) < l.length := by omega
    have w1 : IntKind.i64.wrap ((i : Int) + 1) = ((i + 1 : Nat) : Int) := (wr _ (by omega) (by omega)).trans (by omega)
    generalize l[i] = c at hd hs
    refine DW.skip ?_
    refine DW.seq ?_
    refine DW.block ?_
    refine DW.seq ?_
    refine DW.drawn mixed (by kernel_rfl) ?_
    refine RegD.addN 8 (by simp [hd, hlt']; (first | done | exact ⟨rfl, rfl⟩ | rfl)) ?_
    refine RegD.cert (Cert.callA rfl (by simp) rfl (by decide) (by simp [hd, hlt']; exact ⟨rfl, rfl⟩) (by simp [hd, hlt']; rfl) (by exact eqCell_spec _ (by omega)) rfl (by simp) (by simp; rfl) rfl) ?_
    refine RegD.addN 1 (by simp [hd, hlt']; (first | done | exact ⟨rfl, rfl⟩ | rfl)) ?_
    refine RegD.nil ⟨by kernel_rfl, ?_⟩
    refine DW.condF (by simp) ?_
    refine DW.skip ?_
    refine DW.reg (by simp [w1]; rfl) ?_
    exact ⟨i + 1, hlt, by omega, by simp, by simp, by simp, by rfl⟩
  · refine DW.exit ?_
    refine DW.seq ?_
    refine DW.reg (by simp; rfl) ?_
    refine DW.ret ?_
    simp [Tryd.results139]
theorem eqMemory_spec (a : Memory) (h : Row.sz a ≤ 2 ^ 36) : Spec Tryd.prog 105 [raMemory a, raMemory a] [none] [db true] [raMemory a, raMemory a] := by
  refine Spec.intro Tryd.func105 rfl rfl Tryd.ntmps105 rfl (by simp) ?_
  have hz := Memory_sz a
  refine DW.seq ?_
  refine DW.reg (by simp; rfl) ?_
  refine DW.seq ?_
  refine DW.seq ?_
  refine DW.reg (by simp; rfl) ?_
  refine DW.condF (by simp) ?_
  refine DW.skip ?_
  refine DW.seq ?_
  refine DW.seq ?_
  refine DW.regs ?_
  refine RegO.opN 4 (by simp; rfl) ?_
  refine RegO.step rfl (OpStep.callA rfl (by simp; exact ⟨rfl, rfl⟩) (by simp; rfl) (by exact eqCellS_spec _ (by omega)) (by simp) (by simp; rfl)) ?_
  refine RegO.opN 1 (by simp; rfl) ?_
  refine RegO.nil ?_
  refine DW.condF (by simp) ?_
  refine DW.skip ?_
  refine DW.seq ?_
  refine DW.reg (by simp; rfl) ?_
  refine DW.ret ?_
  simp [Tryd.results105]
theorem eqAsk_spec (a : Ask) (h : Row.sz a ≤ 2 ^ 36) : Spec Tryd.prog 39 [raAsk a, raAsk a] [none] [db true] [raAsk a, raAsk a] := by
  refine Spec.intro Tryd.func39 rfl rfl Tryd.ntmps39 rfl (by simp) ?_
  have hz := Ask_sz a
  refine DW.seq ?_
  refine DW.reg (by simp; rfl) ?_
  refine DW.seq ?_
  refine DW.seq ?_
  refine DW.reg (by simp; rfl) ?_
  refine DW.condF (by simp) ?_
  refine DW.skip ?_
  refine DW.seq ?_
  refine DW.seq ?_
  refine DW.reg (by simp; rfl) ?_
  refine DW.condF (by simp) ?_
  refine DW.skip ?_
  refine DW.seq ?_
  refine DW.seq ?_
  refine DW.reg (by simp; rfl) ?_
  refine DW.condF (by simp) ?_
  refine DW.skip ?_
  refine DW.seq ?_
  refine DW.seq ?_
  refine DW.reg (by simp; rfl) ?_
  refine DW.condF (by simp) ?_
  refine DW.skip ?_
  refine DW.seq ?_
  refine DW.seq ?_
  refine DW.reg (by simp; rfl) ?_
  refine DW.condF (by simp) ?_
  refine DW.skip ?_
  refine DW.seq ?_
  refine DW.seq ?_
  refine DW.reg (by simp; rfl) ?_
  refine DW.condF (by simp) ?_
  refine DW.skip ?_
  refine DW.seq ?_
  refine DW.reg (by simp; rfl) ?_
  refine DW.ret ?_
  simp [Tryd.results39]
theorem eqResult_spec (a : Result) (h : Row.sz a ≤ 2 ^ 36) : Spec Tryd.prog 22 [raResult a, raResult a] [none] [db true] [raResult a, raResult a] := by
  refine Spec.intro Tryd.func22 rfl rfl Tryd.ntmps22 rfl (by simp) ?_
  have hz := Result_sz a
  refine DW.seq ?_
  refine DW.reg (by simp; rfl) ?_
  refine DW.seq ?_
  refine DW.seq ?_
  refine DW.reg (by simp; rfl) ?_
  refine DW.condF (by simp) ?_
  refine DW.skip ?_
  refine DW.seq ?_
  refine DW.seq ?_
  refine DW.reg (by simp; rfl) ?_
  refine DW.condF (by simp) ?_
  refine DW.skip ?_
  refine DW.seq ?_
  refine DW.seq ?_
  refine DW.reg (by simp; rfl) ?_
  refine DW.condF (by simp) ?_
  refine DW.skip ?_
  refine DW.seq ?_
  refine DW.seq ?_
  refine DW.reg (by simp; rfl) ?_
  refine DW.condF (by simp) ?_
  refine DW.skip ?_
  refine DW.seq ?_
  refine DW.seq ?_
  refine DW.regs ?_
  refine RegO.opN 4 (by simp; rfl) ?_
  refine RegO.step rfl (OpStep.callA rfl (by simp; exact ⟨rfl, rfl⟩) (by simp; rfl) (by exact eqStringS_spec _ (by omega)) (by simp) (by simp; rfl)) ?_
  refine RegO.opN 1 (by simp; rfl) ?_
  refine RegO.nil ?_
  refine DW.condF (by simp) ?_
  refine DW.skip ?_
  refine DW.seq ?_
  refine DW.reg (by simp; rfl) ?_
  refine DW.ret ?_
  simp [Tryd.results22]
theorem eqStep_spec (a : Step) (h : Row.sz a ≤ 2 ^ 36) : Spec Tryd.prog 203 [raStep a, raStep a] [none] [db true] [raStep a, raStep a] := by
  refine Spec.intro Tryd.func203 rfl rfl Tryd.ntmps203 rfl (by simp) ?_
  have hz := Step_sz a
  refine DW.seq ?_
  refine DW.reg (by simp; rfl) ?_
  refine DW.seq ?_
  refine DW.seq ?_
  refine DW.reg (by simp; rfl) ?_
  refine DW.condF (by simp) ?_
  refine DW.skip ?_
  refine DW.seq ?_
  refine DW.seq ?_
  refine DW.reg (by simp; rfl) ?_
  refine DW.condF (by simp) ?_
  refine DW.skip ?_
  refine DW.seq ?_
  refine DW.seq ?_
  refine DW.reg (by simp; rfl) ?_
  refine DW.condF (by simp) ?_
  refine DW.skip ?_
  refine DW.seq ?_
  refine DW.reg (by simp; rfl) ?_
  refine DW.ret ?_
  simp [Tryd.results203]
theorem eqStepS_spec (l : List Step) (h : szL l ≤ 2 ^ 36) : Spec Tryd.prog 176 [ra l, ra l] [none] [db true] [ra l, ra l] := by
  refine Spec.intro Tryd.func176 rfl rfl Tryd.ntmps176 rfl (by simp) ?_
  have hll := szL_len l
  refine DW.seq ?_
  refine DW.reg (by simp; rfl) ?_
  refine DW.seq ?_
  refine DW.seq ?_
  refine DW.reg (by simp; rfl) ?_
  refine DW.condF (by simp) ?_
  refine DW.skip ?_
  refine DW.seq ?_
  refine DW.seq ?_
  refine DW.reg (by simp; rfl) ?_
  refine DW.block ?_
  refine DW.loopS (α := Nat) (fun i => i ≤ l.length) (fun i => l.length - i) (fun i => [(5, vi i)]) (fun i => []) [(0, _), (1, _)] [] [] 0 (by simp) (by simp; exact ⟨rfl, rfl⟩) (by simp) (by simp) (by rfl) ?_
  intro i hi
  refine DW.seq ?_
  refine DW.seq ?_
  refine DW.reg (by simp; rfl) ?_
  refine DW.condB (by simp; exact rfl) (fun hc1 => ?_) (fun hc1 => ?_)
  · have hlt : i < l.length := by simpa using hc1
    have hd := rR_drop_Step l i hlt
    have hs := szL_at l i hlt
    have hlt' : (i : Int) < l.length := by omega
    have w1 : IntKind.i64.wrap ((i : Int) + 1) = ((i + 1 : Nat) : Int) := (wr _ (by omega) (by omega)).trans (by omega)
    generalize l[i] = c at hd hs
    refine DW.skip ?_
    refine DW.seq ?_
    refine DW.block ?_
    refine DW.seq ?_
    refine DW.drawn mixed (by kernel_rfl) ?_
    refine RegD.addN 8 (by simp [hd, hlt']; (first | done | exact ⟨rfl, rfl⟩ | rfl)) ?_
    refine RegD.cert (Cert.callA rfl (by simp) rfl (by decide) (by simp [hd, hlt']; exact ⟨rfl, rfl⟩) (by simp [hd, hlt']; rfl) (by exact eqStep_spec _ (by omega)) rfl (by simp) (by simp; rfl) rfl) ?_
    refine RegD.addN 1 (by simp [hd, hlt']; (first | done | exact ⟨rfl, rfl⟩ | rfl)) ?_
    refine RegD.nil ⟨by kernel_rfl, ?_⟩
    refine DW.condF (by simp) ?_
    refine DW.skip ?_
    refine DW.reg (by simp [w1]; rfl) ?_
    exact ⟨i + 1, hlt, by omega, by simp, by simp, by simp, by rfl⟩
  · refine DW.exit ?_
    refine DW.seq ?_
    refine DW.reg (by simp; rfl) ?_
    refine DW.ret ?_
    simp [Tryd.results176]
theorem eqSealing_spec (a : Sealing) (h : Row.sz a ≤ 2 ^ 36) : Spec Tryd.prog 141 [raSealing a, raSealing a] [none] [db true] [raSealing a, raSealing a] := by
  refine Spec.intro Tryd.func141 rfl rfl Tryd.ntmps141 rfl (by simp) ?_
  have hz := Sealing_sz a
  refine DW.seq ?_
  refine DW.reg (by simp; rfl) ?_
  refine DW.seq ?_
  refine DW.seq ?_
  refine DW.reg (by simp; rfl) ?_
  refine DW.condF (by simp) ?_
  refine DW.skip ?_
  refine DW.seq ?_
  refine DW.seq ?_
  refine DW.reg (by simp; rfl) ?_
  refine DW.condF (by simp) ?_
  refine DW.skip ?_
  refine DW.seq ?_
  refine DW.seq ?_
  refine DW.reg (by simp; rfl) ?_
  refine DW.condF (by simp) ?_
  refine DW.skip ?_
  refine DW.seq ?_
  refine DW.reg (by simp; rfl) ?_
  refine DW.ret ?_
  simp [Tryd.results141]
theorem eqSealingS_spec (l : List Sealing) (h : szL l ≤ 2 ^ 36) : Spec Tryd.prog 107 [ra l, ra l] [none] [db true] [ra l, ra l] := by
  refine Spec.intro Tryd.func107 rfl rfl Tryd.ntmps107 rfl (by simp) ?_
  have hll := szL_len l
  refine DW.seq ?_
  refine DW.reg (by simp; rfl) ?_
  refine DW.seq ?_
  refine DW.seq ?_
  refine DW.reg (by simp; rfl) ?_
  refine DW.condF (by simp) ?_
  refine DW.skip ?_
  refine DW.seq ?_
  refine DW.seq ?_
  refine DW.reg (by simp; rfl) ?_
  refine DW.block ?_
  refine DW.loopS (α := Nat) (fun i => i ≤ l.length) (fun i => l.length - i) (fun i => [(5, vi i)]) (fun i => []) [(0, _), (1, _)] [] [] 0 (by simp) (by simp; exact ⟨rfl, rfl⟩) (by simp) (by simp) (by rfl) ?_
  intro i hi
  refine DW.seq ?_
  refine DW.seq ?_
  refine DW.reg (by simp; rfl) ?_
  refine DW.condB (by simp; exact rfl) (fun hc1 => ?_) (fun hc1 => ?_)
  · have hlt : i < l.length := by simpa using hc1
    have hd := rR_drop_Sealing l i hlt
    have hs := szL_at l i hlt
    have hlt' : (i : Int) < l.length := by omega
    have w1 : IntKind.i64.wrap ((i : Int) + 1) = ((i + 1 : Nat) : Int) := (wr _ (by omega) (by omega)).trans (by omega)
    generalize l[i] = c at hd hs
    refine DW.skip ?_
    refine DW.seq ?_
    refine DW.block ?_
    refine DW.seq ?_
    refine DW.drawn mixed (by kernel_rfl) ?_
    refine RegD.addN 8 (by simp [hd, hlt']; (first | done | exact ⟨rfl, rfl⟩ | rfl)) ?_
    refine RegD.cert (Cert.callA rfl (by simp) rfl (by decide) (by simp [hd, hlt']; exact ⟨rfl, rfl⟩) (by simp [hd, hlt']; rfl) (by exact eqSealing_spec _ (by omega)) rfl (by simp) (by simp; rfl) rfl) ?_
    refine RegD.addN 1 (by simp [hd, hlt']; (first | done | exact ⟨rfl, rfl⟩ | rfl)) ?_
    refine RegD.nil ⟨by kernel_rfl, ?_⟩
    refine DW.condF (by simp) ?_
    refine DW.skip ?_
    refine DW.reg (by simp [w1]; rfl) ?_
    exact ⟨i + 1, hlt, by omega, by simp, by simp, by simp, by rfl⟩
  · refine DW.exit ?_
    refine DW.seq ?_
    refine DW.reg (by simp; rfl) ?_
    refine DW.ret ?_
    simp [Tryd.results107]
theorem eqJob_spec (a : Job) (h : Row.sz a ≤ 2 ^ 36) : Spec Tryd.prog 140 [raJob a, raJob a] [none] [db true] [raJob a, raJob a] := by
  refine Spec.intro Tryd.func140 rfl rfl Tryd.ntmps140 rfl (by simp) ?_
  have hz := Job_sz a
  refine DW.seq ?_
  refine DW.reg (by simp; rfl) ?_
  refine DW.seq ?_
  refine DW.seq ?_
  refine DW.regs ?_
  refine RegO.opN 4 (by simp; rfl) ?_
  refine RegO.step rfl (OpStep.callA rfl (by simp; exact ⟨rfl, rfl⟩) (by simp; rfl) (by exact eqAsk_spec _ (by omega)) (by simp) (by simp; rfl)) ?_
  refine RegO.opN 1 (by simp; rfl) ?_
  refine RegO.nil ?_
  refine DW.condF (by simp) ?_
  refine DW.skip ?_
  refine DW.seq ?_
  refine DW.seq ?_
  refine DW.regs ?_
  refine RegO.opN 4 (by simp; rfl) ?_
  refine RegO.step rfl (OpStep.callA rfl (by simp; exact ⟨rfl, rfl⟩) (by simp; rfl) (by exact eqResult_spec _ (by omega)) (by simp) (by simp; rfl)) ?_
  refine RegO.opN 1 (by simp; rfl) ?_
  refine RegO.nil ?_
  refine DW.condF (by simp) ?_
  refine DW.skip ?_
  refine DW.seq ?_
  refine DW.seq ?_
  refine DW.regs ?_
  refine RegO.opN 4 (by simp; rfl) ?_
  refine RegO.step rfl (OpStep.callA rfl (by simp; exact ⟨rfl, rfl⟩) (by simp; rfl) (by exact eqStepS_spec _ (by omega)) (by simp) (by simp; rfl)) ?_
  refine RegO.opN 1 (by simp; rfl) ?_
  refine RegO.nil ?_
  refine DW.condF (by simp) ?_
  refine DW.skip ?_
  refine DW.seq ?_
  refine DW.seq ?_
  refine DW.regs ?_
  refine RegO.opN 4 (by simp; rfl) ?_
  refine RegO.step rfl (OpStep.callA rfl (by simp; exact ⟨rfl, rfl⟩) (by simp; rfl) (by exact eqSealingS_spec _ (by omega)) (by simp) (by simp; rfl)) ?_
  refine RegO.opN 1 (by simp; rfl) ?_
  refine RegO.nil ?_
  refine DW.condF (by simp) ?_
  refine DW.skip ?_
  refine DW.seq ?_
  refine DW.seq ?_
  refine DW.reg (by simp; rfl) ?_
  refine DW.condF (by simp) ?_
  refine DW.skip ?_
  refine DW.seq ?_
  refine DW.seq ?_
  refine DW.reg (by simp; rfl) ?_
  refine DW.condF (by simp) ?_
  refine DW.skip ?_
  refine DW.seq ?_
  refine DW.seq ?_
  refine DW.reg (by simp; rfl) ?_
  refine DW.condF (by simp) ?_
  refine DW.skip ?_
  refine DW.seq ?_
  refine DW.reg (by simp; rfl) ?_
  refine DW.ret ?_
  simp [Tryd.results140]
theorem eqJobS_spec (l : List Job) (h : szL l ≤ 2 ^ 36) : Spec Tryd.prog 106 [ra l, ra l] [none] [db true] [ra l, ra l] := by
  refine Spec.intro Tryd.func106 rfl rfl Tryd.ntmps106 rfl (by simp) ?_
  have hll := szL_len l
  refine DW.seq ?_
  refine DW.reg (by simp; rfl) ?_
  refine DW.seq ?_
  refine DW.seq ?_
  refine DW.reg (by simp; rfl) ?_
  refine DW.condF (by simp) ?_
  refine DW.skip ?_
  refine DW.seq ?_
  refine DW.seq ?_
  refine DW.reg (by simp; rfl) ?_
  refine DW.block ?_
  refine DW.loopS (α := Nat) (fun i => i ≤ l.length) (fun i => l.length - i) (fun i => [(5, vi i)]) (fun i => []) [(0, _), (1, _)] [] [] 0 (by simp) (by simp; exact ⟨rfl, rfl⟩) (by simp) (by simp) (by rfl) ?_
  intro i hi
  refine DW.seq ?_
  refine DW.seq ?_
  refine DW.reg (by simp; rfl) ?_
  refine DW.condB (by simp; exact rfl) (fun hc1 => ?_) (fun hc1 => ?_)
  · have hlt : i < l.length := by simpa using hc1
    have hd := rR_drop_Job l i hlt
    have hs := szL_at l i hlt
    have hlt' : (i : Int) < l.length := by omega
    have w1 : IntKind.i64.wrap ((i : Int) + 1) = ((i + 1 : Nat) : Int) := (wr _ (by omega) (by omega)).trans (by omega)
    generalize l[i] = c at hd hs
    refine DW.skip ?_
    refine DW.seq ?_
    refine DW.block ?_
    refine DW.seq ?_
    refine DW.drawn mixed (by kernel_rfl) ?_
    refine RegD.addN 8 (by simp [hd, hlt']; (first | done | exact ⟨rfl, rfl⟩ | rfl)) ?_
    refine RegD.cert (Cert.callA rfl (by simp) rfl (by decide) (by simp [hd, hlt']; exact ⟨rfl, rfl⟩) (by simp [hd, hlt']; rfl) (by exact eqJob_spec _ (by omega)) rfl (by simp) (by simp; rfl) rfl) ?_
    refine RegD.addN 1 (by simp [hd, hlt']; (first | done | exact ⟨rfl, rfl⟩ | rfl)) ?_
    refine RegD.nil ⟨by kernel_rfl, ?_⟩
    refine DW.condF (by simp) ?_
    refine DW.skip ?_
    refine DW.reg (by simp [w1]; rfl) ?_
    exact ⟨i + 1, hlt, by omega, by simp, by simp, by simp, by rfl⟩
  · refine DW.exit ?_
    refine DW.seq ?_
    refine DW.reg (by simp; rfl) ?_
    refine DW.ret ?_
    simp [Tryd.results106]
theorem eqSystem_spec (a : System) (h : Row.sz a ≤ 2 ^ 36) : Spec Tryd.prog 67 [raSystem a, raSystem a] [none] [db true] [raSystem a, raSystem a] := by
  refine Spec.intro Tryd.func67 rfl rfl Tryd.ntmps67 rfl (by simp) ?_
  have hz := System_sz a
  refine DW.seq ?_
  refine DW.reg (by simp; rfl) ?_
  refine DW.seq ?_
  refine DW.seq ?_
  refine DW.regs ?_
  refine RegO.opN 4 (by simp; rfl) ?_
  refine RegO.step rfl (OpStep.callA rfl (by simp; exact ⟨rfl, rfl⟩) (by simp; rfl) (by exact eqGeo_spec _ (by omega)) (by simp) (by simp; rfl)) ?_
  refine RegO.opN 1 (by simp; rfl) ?_
  refine RegO.nil ?_
  refine DW.condF (by simp) ?_
  refine DW.skip ?_
  refine DW.seq ?_
  refine DW.seq ?_
  refine DW.regs ?_
  refine RegO.opN 4 (by simp; rfl) ?_
  refine RegO.step rfl (OpStep.callA rfl (by simp; exact ⟨rfl, rfl⟩) (by simp; rfl) (by exact eqMemory_spec _ (by omega)) (by simp) (by simp; rfl)) ?_
  refine RegO.opN 1 (by simp; rfl) ?_
  refine RegO.nil ?_
  refine DW.condF (by simp) ?_
  refine DW.skip ?_
  refine DW.seq ?_
  refine DW.seq ?_
  refine DW.regs ?_
  refine RegO.opN 4 (by simp; rfl) ?_
  refine RegO.step rfl (OpStep.callA rfl (by simp; exact ⟨rfl, rfl⟩) (by simp; rfl) (by exact eqJobS_spec _ (by omega)) (by simp) (by simp; rfl)) ?_
  refine RegO.opN 1 (by simp; rfl) ?_
  refine RegO.nil ?_
  refine DW.condF (by simp) ?_
  refine DW.skip ?_
  refine DW.seq ?_
  refine DW.seq ?_
  refine DW.regs ?_
  refine RegO.opN 4 (by simp; rfl) ?_
  refine RegO.step rfl (OpStep.callA rfl (by simp; exact ⟨rfl, rfl⟩) (by simp; rfl) (by exact eqSealingS_spec _ (by omega)) (by simp) (by simp; rfl)) ?_
  refine RegO.opN 1 (by simp; rfl) ?_
  refine RegO.nil ?_
  refine DW.condF (by simp) ?_
  refine DW.skip ?_
  refine DW.seq ?_
  refine DW.reg (by simp; rfl) ?_
  refine DW.ret ?_
  simp [Tryd.results67]
theorem eqItem_spec (a : Item) (h : Row.sz a ≤ 2 ^ 36) : Spec Tryd.prog 177 [raItem a, raItem a] [none] [db true] [raItem a, raItem a] := by
  refine Spec.intro Tryd.func177 rfl rfl Tryd.ntmps177 rfl (by simp) ?_
  have hz := Item_sz a
  refine DW.seq ?_
  refine DW.reg (by simp; rfl) ?_
  refine DW.seq ?_
  refine DW.seq ?_
  refine DW.reg (by simp; rfl) ?_
  refine DW.condF (by simp) ?_
  refine DW.skip ?_
  refine DW.seq ?_
  refine DW.seq ?_
  refine DW.reg (by simp; rfl) ?_
  refine DW.condF (by simp) ?_
  refine DW.skip ?_
  refine DW.seq ?_
  refine DW.seq ?_
  refine DW.reg (by simp; rfl) ?_
  refine DW.condF (by simp) ?_
  refine DW.skip ?_
  refine DW.seq ?_
  refine DW.reg (by simp; rfl) ?_
  refine DW.ret ?_
  simp [Tryd.results177]
theorem eqItemS_spec (l : List Item) (h : szL l ≤ 2 ^ 36) : Spec Tryd.prog 142 [ra l, ra l] [none] [db true] [ra l, ra l] := by
  refine Spec.intro Tryd.func142 rfl rfl Tryd.ntmps142 rfl (by simp) ?_
  have hll := szL_len l
  refine DW.seq ?_
  refine DW.reg (by simp; rfl) ?_
  refine DW.seq ?_
  refine DW.seq ?_
  refine DW.reg (by simp; rfl) ?_
  refine DW.condF (by simp) ?_
  refine DW.skip ?_
  refine DW.seq ?_
  refine DW.seq ?_
  refine DW.reg (by simp; rfl) ?_
  refine DW.block ?_
  refine DW.loopS (α := Nat) (fun i => i ≤ l.length) (fun i => l.length - i) (fun i => [(5, vi i)]) (fun i => []) [(0, _), (1, _)] [] [] 0 (by simp) (by simp; exact ⟨rfl, rfl⟩) (by simp) (by simp) (by rfl) ?_
  intro i hi
  refine DW.seq ?_
  refine DW.seq ?_
  refine DW.reg (by simp; rfl) ?_
  refine DW.condB (by simp; exact rfl) (fun hc1 => ?_) (fun hc1 => ?_)
  · have hlt : i < l.length := by simpa using hc1
    have hd := rR_drop_Item l i hlt
    have hs := szL_at l i hlt
    have hlt' : (i : Int) < l.length := by omega
    have w1 : IntKind.i64.wrap ((i : Int) + 1) = ((i + 1 : Nat) : Int) := (wr _ (by omega) (by omega)).trans (by omega)
    generalize l[i] = c at hd hs
    refine DW.skip ?_
    refine DW.seq ?_
    refine DW.block ?_
    refine DW.seq ?_
    refine DW.drawn mixed (by kernel_rfl) ?_
    refine RegD.addN 8 (by simp [hd, hlt']; (first | done | exact ⟨rfl, rfl⟩ | rfl)) ?_
    refine RegD.cert (Cert.callA rfl (by simp) rfl (by decide) (by simp [hd, hlt']; exact ⟨rfl, rfl⟩) (by simp [hd, hlt']; rfl) (by exact eqItem_spec _ (by omega)) rfl (by simp) (by simp; rfl) rfl) ?_
    refine RegD.addN 1 (by simp [hd, hlt']; (first | done | exact ⟨rfl, rfl⟩ | rfl)) ?_
    refine RegD.nil ⟨by kernel_rfl, ?_⟩
    refine DW.condF (by simp) ?_
    refine DW.skip ?_
    refine DW.reg (by simp [w1]; rfl) ?_
    exact ⟨i + 1, hlt, by omega, by simp, by simp, by simp, by rfl⟩
  · refine DW.exit ?_
    refine DW.seq ?_
    refine DW.reg (by simp; rfl) ?_
    refine DW.ret ?_
    simp [Tryd.results142]
theorem eqView_spec (a : View) (h : Row.sz a ≤ 2 ^ 36) : Spec Tryd.prog 108 [raView a, raView a] [none] [db true] [raView a, raView a] := by
  refine Spec.intro Tryd.func108 rfl rfl Tryd.ntmps108 rfl (by simp) ?_
  have hz := View_sz a
  refine DW.seq ?_
  refine DW.reg (by simp; rfl) ?_
  refine DW.seq ?_
  refine DW.seq ?_
  refine DW.regs ?_
  refine RegO.opN 4 (by simp; rfl) ?_
  refine RegO.step rfl (OpStep.callA rfl (by simp; exact ⟨rfl, rfl⟩) (by simp; rfl) (by exact eqItemS_spec _ (by omega)) (by simp) (by simp; rfl)) ?_
  refine RegO.opN 1 (by simp; rfl) ?_
  refine RegO.nil ?_
  refine DW.condF (by simp) ?_
  refine DW.skip ?_
  refine DW.seq ?_
  refine DW.reg (by simp; rfl) ?_
  refine DW.ret ?_
  simp [Tryd.results108]
theorem eqViewS_spec (l : List View) (h : szL l ≤ 2 ^ 36) : Spec Tryd.prog 68 [ra l, ra l] [none] [db true] [ra l, ra l] := by
  refine Spec.intro Tryd.func68 rfl rfl Tryd.ntmps68 rfl (by simp) ?_
  have hll := szL_len l
  refine DW.seq ?_
  refine DW.reg (by simp; rfl) ?_
  refine DW.seq ?_
  refine DW.seq ?_
  refine DW.reg (by simp; rfl) ?_
  refine DW.condF (by simp) ?_
  refine DW.skip ?_
  refine DW.seq ?_
  refine DW.seq ?_
  refine DW.reg (by simp; rfl) ?_
  refine DW.block ?_
  refine DW.loopS (α := Nat) (fun i => i ≤ l.length) (fun i => l.length - i) (fun i => [(5, vi i)]) (fun i => []) [(0, _), (1, _)] [] [] 0 (by simp) (by simp; exact ⟨rfl, rfl⟩) (by simp) (by simp) (by rfl) ?_
  intro i hi
  refine DW.seq ?_
  refine DW.seq ?_
  refine DW.reg (by simp; rfl) ?_
  refine DW.condB (by simp; exact rfl) (fun hc1 => ?_) (fun hc1 => ?_)
  · have hlt : i < l.length := by simpa using hc1
    have hd := rR_drop_View l i hlt
    simp only [Nat.mul_one] at hd
    have hs := szL_at l i hlt
    have hlt' : (i : Int) < l.length := by omega
    have w1 : IntKind.i64.wrap ((i : Int) + 1) = ((i + 1 : Nat) : Int) := (wr _ (by omega) (by omega)).trans (by omega)
    generalize l[i] = c at hd hs
    refine DW.skip ?_
    refine DW.seq ?_
    refine DW.block ?_
    refine DW.seq ?_
    refine DW.drawn mixed (by kernel_rfl) ?_
    refine RegD.addN 8 (by simp [hd, hlt']; (first | done | exact ⟨rfl, rfl⟩ | rfl)) ?_
    refine RegD.cert (Cert.callA rfl (by simp) rfl (by decide) (by simp [hd, hlt']; exact ⟨rfl, rfl⟩) (by simp [hd, hlt']; rfl) (by exact eqView_spec _ (by omega)) rfl (by simp) (by simp; rfl) rfl) ?_
    refine RegD.addN 1 (by simp [hd, hlt']; (first | done | exact ⟨rfl, rfl⟩ | rfl)) ?_
    refine RegD.nil ⟨by kernel_rfl, ?_⟩
    refine DW.condF (by simp) ?_
    refine DW.skip ?_
    refine DW.reg (by simp [w1]; rfl) ?_
    exact ⟨i + 1, hlt, by omega, by simp, by simp, by simp, by rfl⟩
  · refine DW.exit ?_
    refine DW.seq ?_
    refine DW.reg (by simp; rfl) ?_
    refine DW.ret ?_
    simp [Tryd.results68]
theorem eqWorld_spec (a : World) (h : Row.sz a ≤ 2 ^ 36) : Spec Tryd.prog 28 [raWorld a, raWorld a] [none] [db true] [raWorld a, raWorld a] := by
  refine Spec.intro Tryd.func28 rfl rfl Tryd.ntmps28 rfl (by simp) ?_
  have hz := World_sz a
  refine DW.seq ?_
  refine DW.reg (by simp; rfl) ?_
  refine DW.seq ?_
  refine DW.seq ?_
  refine DW.regs ?_
  refine RegO.opN 4 (by simp; rfl) ?_
  refine RegO.step rfl (OpStep.callA rfl (by simp; exact ⟨rfl, rfl⟩) (by simp; rfl) (by exact eqSystem_spec _ (by omega)) (by simp) (by simp; rfl)) ?_
  refine RegO.opN 1 (by simp; rfl) ?_
  refine RegO.nil ?_
  refine DW.condF (by simp) ?_
  refine DW.skip ?_
  refine DW.seq ?_
  refine DW.seq ?_
  refine DW.regs ?_
  refine RegO.opN 4 (by simp; rfl) ?_
  refine RegO.step rfl (OpStep.callA rfl (by simp; exact ⟨rfl, rfl⟩) (by simp; rfl) (by exact eqViewS_spec _ (by omega)) (by simp) (by simp; rfl)) ?_
  refine RegO.opN 1 (by simp; rfl) ?_
  refine RegO.nil ?_
  refine DW.condF (by simp) ?_
  refine DW.skip ?_
  refine DW.seq ?_
  refine DW.seq ?_
  refine DW.regs ?_
  refine RegO.opN 4 (by simp; rfl) ?_
  refine RegO.step rfl (OpStep.callA rfl (by simp; exact ⟨rfl, rfl⟩) (by simp; rfl) (by exact eqViewS_spec _ (by omega)) (by simp) (by simp; rfl)) ?_
  refine RegO.opN 1 (by simp; rfl) ?_
  refine RegO.nil ?_
  refine DW.condF (by simp) ?_
  refine DW.skip ?_
  refine DW.seq ?_
  refine DW.seq ?_
  refine DW.reg (by simp; rfl) ?_
  refine DW.condF (by simp) ?_
  refine DW.skip ?_
  refine DW.seq ?_
  refine DW.reg (by simp; rfl) ?_
  refine DW.ret ?_
  simp [Tryd.results28]
theorem markCellS_spec (l : List Cell) (k : Int) (h0 : 0 < k) (h1 : k + (ctL l : Int) ≤ 1152921504606846976) (h : szL l ≤ 2 ^ 36) : Spec Tryd.prog 143 [.one (.m 3 l.length (rD l)), ri k] [none] [di (k + (ctL l : Int))] [.one (.m 3 l.length (rD (mkL l k))), ri k] := by
  refine Spec.intro Tryd.func143 rfl rfl Tryd.ntmps143 rfl (by simp) ?_
  have hll := szL_len l
  refine DW.seq ?_
  refine DW.reg (by simp; rfl) ?_
  refine DW.seq ?_
  refine DW.seq ?_
  refine DW.reg (by simp; rfl) ?_
  refine DW.block ?_
  refine DW.loopS (α := Nat × Int) (fun p => p.1 ≤ l.length ∧ p.2 = k + (ctL (l.take p.1) : Int)) (fun p => l.length - p.1) (fun p => [(5, vi p.1), (1, vi p.2)]) (fun p => [(0, .hold [.ow () 3 l.length (rD (mkL (l.take p.1) k) ++ rD (l.drop p.1))])]) [(0, _)] [] [(0, .sl 0 [0] 0 l.length)] (0, k) (⟨Nat.zero_le _, by simp⟩) (by simp; exact rfl) (by simp) (by simp) (by rfl) ?_
  rintro ⟨i, K⟩ ⟨hi, hK⟩
  simp only at hi hK ⊢
  refine DW.seq ?_
  refine DW.seq ?_
  refine DW.reg (by simp; rfl) ?_
  refine DW.condB (by simp; exact rfl) (fun hc0 => ?_) (fun hc0 => ?_)
  · have hlt : i < l.length := by simpa using hc0
    have hd := rD_dropc l i hlt
    have hs := szL_at l i hlt
    have hct := ctL_take l i hlt
    have hca := ctL_at l i hlt
    have hm := mkL_take l i k hlt
    replace hm := congrArg rD hm
    rw [rD_append, ← hK] at hm
    have hlt' : (i : Int) < l.length := by omega
    have w1 : IntKind.i64.wrap ((i : Int) + 1) = ((i + 1 : Nat) : Int) := (wr _ (by omega) (by omega)).trans (by omega)
    have hA : (rD (mkL (l.take i) k)).length = i * 3 := by rw [rD_len_Cell, mkL_len, List.length_take, Nat.min_eq_left (by omega)]
    generalize l[i] = c at hd hs hct hca hm
    have hcc := Cell_ct c
    have hcs := Cell_sz c
    rw [Cell_mk] at hm
    replace hm : rD (mkL (l.take (i + 1)) k) = rD (mkL (l.take i) k) ++ Cell.d _ := hm.trans (by simp only [rD, List.flatMap_cons, List.flatMap_nil, List.append_nil]; rfl)
    replace hd : rD (l.drop i) = Cell.d c ++ rD (l.drop (i + 1)) := hd
    have t0 : 0 < K ∧ K < 4611686018427387904 := ⟨by omega, by omega⟩
    have t1 : 0 < K + 1 ∧ K + 1 < 4611686018427387904 := ⟨by omega, by omega⟩
    have t2 : 0 < K + 2 ∧ K + 2 < 4611686018427387904 := ⟨by omega, by omega⟩
    obtain ⟨v1, v2, v3⟩ : IntKind.i64.wrap (K + 1) = K + 1 ∧ IntKind.i64.wrap (K + 1 + 1) = K + 2 ∧ IntKind.i64.wrap (K + 2 + 1) = K + 3 := ⟨(wr _ (by omega) (by omega)).trans (by omega), (wr _ (by omega) (by omega)).trans (by omega), (wr _ (by omega) (by omega)).trans (by omega)⟩
    refine DW.skip ?_
    refine DW.seq ?_
    refine DW.block ?_
    refine DW.seq ?_
    refine DW.reg (by simp [hd, hlt', app_get hA, app_get0 hA, app_set hA, app_set0 hA, Nat.add_assoc]; rfl) ?_
    refine DW.seq ?_
    refine DW.reg (by simp [v1]; rfl) ?_
    refine DW.seq ?_
    refine DW.regs ?_
    refine RegO.opN 3 (by simp [hd, hlt', app_get hA, app_get0 hA, app_set hA, app_set0 hA, Nat.add_assoc]; rfl) ?_
    refine RegO.step rfl (OpStep.callA rfl (by simp [hd, hlt', app_get hA, app_get0 hA, app_set hA, app_set0 hA, Nat.add_assoc]; exact ⟨rfl, rfl⟩) (by simp [hd, hlt', app_get hA, app_get0 hA, app_set hA, app_set0 hA, Nat.add_assoc]; rfl) (by exact markText_spec _ t1.1 t1.2) (by simp) (by simp [hd, hlt', app_get hA, app_get0 hA, app_set hA, app_set0 hA, Nat.add_assoc]; rfl)) ?_
    refine RegO.opN 3 (by simp [hd, hlt', app_get hA, app_get0 hA, app_set hA, app_set0 hA, Nat.add_assoc]; rfl) ?_
    refine RegO.nil ?_
    refine DW.seq ?_
    refine DW.reg (by simp [v2]; rfl) ?_
    refine DW.seq ?_
    refine DW.reg (by simp [hd, hlt', app_get hA, app_get0 hA, app_set hA, app_set0 hA, Nat.add_assoc]; rfl) ?_
    refine DW.reg (by simp [v3]; rfl) ?_
    refine DW.reg (by simp [w1]; rfl) ?_
    clear v1 v2 v3
    exact ⟨(i + 1, K + 3), ⟨hlt, by simp only; omega⟩, by simp only; omega, by simp, by simp [hm, mb], by simp, by rfl⟩
  · have hil : i = l.length := by
      have : ¬ i < l.length := by simpa using hc0
      omega
    subst hil
    rw [List.take_length] at hK
    refine DW.exit ?_
    refine DW.seq ?_
    refine DW.reg (by simp; rfl) ?_
    refine DW.ret ?_
    simp [Tryd.results143, hK]
theorem markCellS_spec0 (k : Int) : Spec Tryd.prog 143 [.one (.r (.sl 0 [])), ri k] [none] [di k] [.one (.r (.sl 0 [])), ri k] := by
  refine Spec.intro Tryd.func143 rfl rfl Tryd.ntmps143 rfl (by simp) ?_
  refine DW.seq ?_
  refine DW.reg (by simp; rfl) ?_
  refine DW.seq ?_
  refine DW.seq ?_
  refine DW.reg (by simp; rfl) ?_
  refine DW.block ?_
  refine DW.loopS (α := Nat) (fun p => True) (fun p => p) (fun p => [(5, vi 0), (1, vi k)]) (fun p => []) [(0, _)] [] [] 0 (trivial) (by simp; exact rfl) (by simp) (by simp) (by rfl) ?_
  rintro p -
  refine DW.seq ?_
  refine DW.seq ?_
  refine DW.reg (by simp; rfl) ?_
  refine DW.condF (by simp) ?_
  refine DW.exit ?_
  refine DW.seq ?_
  refine DW.reg (by simp; rfl) ?_
  refine DW.ret ?_
  simp [Tryd.results143]
theorem markMemory_spec (a : Memory) (k : Int) (h0 : 0 < k) (h1 : k + (Memory.ctT a : Int) ≤ 1152921504606846976) (h : Row.sz a ≤ 2 ^ 36) : Spec Tryd.prog 109 [maMemory a, ri k] [none] [di (k + (Memory.ctT a : Int))] [maMemory (Memory.mkT a k), ri k] := by
  refine Spec.intro Tryd.func109 rfl rfl Tryd.ntmps109 rfl (by simp) ?_
  have hz := Memory_sz a
  have hT : Memory.ctT a = ctL a.Cells := by simp only [Memory.mkT, Memory.ctT]
  have u0 : 0 < k ∧ k + (ctL a.Cells : Int) ≤ 1152921504606846976 ∧ szL a.Cells ≤ 2 ^ 36 := ⟨by omega, by omega, by omega⟩
  have hTT : k + (Memory.ctT a : Int) = k + (ctL a.Cells : Int) := by omega
  obtain ⟨a_Kept, a_Cells⟩ := a
  simp only at *
  rcases nil_or_pos' a_Cells with ⟨m0, n0, e0, p0, rfl⟩ | ⟨m0, n0, e0, p0, -⟩
  all_goals
    refine DW.ghost (Ghost.empty 0) ?_
    refine DW.seq ?_
    refine DW.regs ?_
    refine RegO.step rfl (OpStep.boxR rfl rfl (by decide) (by simp [m0, n0, e0, p0]; rfl) (by simp [m0, n0, e0, p0]; first | exact ⟨rfl, rfl⟩ | rfl) (by simp) (by simp)) ?_
    refine RegO.opN 1 (by simp; rfl) ?_
    refine RegO.nil ?_
    first
      | refine DW.norm [(1, _), (2, _)] [(0, _), (2, _)] [(1, _)] (by simp [m0, n0, e0, p0]; exact ⟨rfl, rfl⟩) (by simp [m0, n0, e0, p0]; exact ⟨rfl, rfl⟩) (by simp [m0, n0, e0, p0]; rfl) (by rfl) ?_
      | refine DW.norm [(1, _), (2, _)] [(2, _)] [] (by simp [m0, n0, e0, p0]; exact ⟨rfl, rfl⟩) (by simp [m0, n0, e0, p0]; rfl) (by simp [m0, n0, e0, p0]) (by rfl) ?_
    refine DW.seq ?_
    refine DW.regs ?_
    refine RegO.opN 3 (by simp [m0, n0, e0, p0]; rfl) ?_
    first
      | (refine RegO.step rfl (OpStep.callL (io := 0) rfl (by simp [m0, n0, e0, p0]; rfl) (markCellS_spec _ _ u0.1 u0.2.1 u0.2.2) (by rfl) (by rfl) (by rfl) (by rfl) (by simp [lendL, FS.lend, m0, n0, e0, p0]; exact ⟨rfl, rfl⟩) (by simp [apartP]) (by simp) (by simp [m0, n0, e0, p0]; rfl) (by simp [rosOk]) (by simp) (by simp [backFS, hBack, pzsC, pzS, paCells, PC.tree, m0, n0, e0, p0]; rfl)) ?_)
      | refine RegO.step rfl (OpStep.callA rfl (by simp [m0, n0, e0, p0]; exact ⟨rfl, rfl⟩) (by simp [m0, n0, e0, p0]; rfl) (by exact markCellS_spec0 _) (by simp) (by simp [m0, n0, e0, p0]; rfl)) ?_
    refine RegO.opN 1 (by simp [m0, n0, e0, p0]; rfl) ?_
    refine RegO.nil ?_
    first
      | refine DW.norm [(1, _), (2, _)] [(0, _), (2, _)] [(1, _)] (by simp [m0, n0, e0, p0]; exact ⟨rfl, rfl⟩) (by simp [m0, n0, e0, p0]; exact ⟨rfl, rfl⟩) (by simp [m0, n0, e0, p0]; rfl) (by rfl) ?_
      | refine DW.norm [(1, _), (2, _)] [(2, _)] [] (by simp [m0, n0, e0, p0]; exact ⟨rfl, rfl⟩) (by simp [m0, n0, e0, p0]; rfl) (by simp [m0, n0, e0, p0]) (by rfl) ?_
    refine DW.seq ?_
    refine DW.reg (by simp [m0, n0, e0, p0]; rfl) ?_
    try (refine DW.ghost ((Ghost.move (id := 2) (id' := 1001) (p := [1]) (by simp; rfl) (by simp [m0, n0, e0, p0]; first | exact ⟨rfl, rfl, rfl⟩ | rfl) (by simp)).trans (Ghost.plant 1001 0 1 (by simp [m0, n0, e0, p0]; first | exact ⟨rfl, rfl, rfl⟩ | rfl) (by simp; rfl) (by simp))) ?_)
    refine DW.ret ?_
    simp [Tryd.results109, hTT, Memory.mkT, m0, n0, e0, p0]
theorem markStringS_spec (l : List ByteArray) (k : Int) (h0 : 0 < k) (h1 : k + (ctL l : Int) ≤ 1152921504606846976) (h : szL l ≤ 2 ^ 36) : Spec Tryd.prog 30 [.one (.m 1 l.length (rD l)), ri k] [none] [di (k + (ctL l : Int))] [.one (.m 1 l.length (rD (mkL l k))), ri k] := by
  refine Spec.intro Tryd.func30 rfl rfl Tryd.ntmps30 rfl (by simp) ?_
  have hll := szL_len l
  refine DW.seq ?_
  refine DW.reg (by simp; rfl) ?_
  refine DW.seq ?_
  refine DW.seq ?_
  refine DW.reg (by simp; rfl) ?_
  refine DW.block ?_
  refine DW.loopS (α := Nat × Int) (fun p => p.1 ≤ l.length ∧ p.2 = k + (ctL (l.take p.1) : Int)) (fun p => l.length - p.1) (fun p => [(5, vi p.1), (1, vi p.2)]) (fun p => [(0, .hold [.ow () 1 l.length (rD (mkL (l.take p.1) k) ++ rD (l.drop p.1))])]) [(0, _)] [] [(0, .sl 0 [0] 0 l.length)] (0, k) (⟨Nat.zero_le _, by simp⟩) (by simp; exact rfl) (by simp) (by simp) (by rfl) ?_
  rintro ⟨i, K⟩ ⟨hi, hK⟩
  simp only at hi hK ⊢
  refine DW.seq ?_
  refine DW.seq ?_
  refine DW.reg (by simp; rfl) ?_
  refine DW.condB (by simp; exact rfl) (fun hc0 => ?_) (fun hc0 => ?_)
  · have hlt : i < l.length := by simpa using hc0
    have hd := rD_dropc l i hlt
    have hs := szL_at l i hlt
    have hct := ctL_take l i hlt
    have hca := ctL_at l i hlt
    have hm := mkL_take l i k hlt
    replace hm := congrArg rD hm
    rw [rD_append, ← hK] at hm
    have hlt' : (i : Int) < l.length := by omega
    have w1 : IntKind.i64.wrap ((i : Int) + 1) = ((i + 1 : Nat) : Int) := (wr _ (by omega) (by omega)).trans (by omega)
    have hA : (rD (mkL (l.take i) k)).length = i := by rw [rD_len_ByteArray, mkL_len, List.length_take, Nat.min_eq_left (by omega)]; omega
    generalize l[i] = c at hd hs hct hca hm
    have hcc : Row.ct c = 1 := rfl
    have hm' : rD (mkL (l.take (i + 1)) k) = rD (mkL (l.take i) k) ++ [T.sc (.string (mt K))] := hm
    clear hm
    have hm := hm'
    have hd' : rD (l.drop i) = [T.sc (.string c)] ++ rD (l.drop (i + 1)) := hd
    clear hd
    have hd := hd'
    have t0 : 0 < K ∧ K < 4611686018427387904 := ⟨by omega, by omega⟩
    obtain v1 : IntKind.i64.wrap (K + 1) = K + 1 := (wr _ (by omega) (by omega)).trans (by omega)
    refine DW.skip ?_
    refine DW.seq ?_
    refine DW.block ?_
    refine DW.seq ?_
    refine DW.regs ?_
    refine RegO.opN 3 (by simp [hd, hlt', app_get hA, app_get0 hA, app_set hA, app_set0 hA, Nat.add_assoc]; rfl) ?_
    refine RegO.step rfl (OpStep.callA rfl (by simp [hd, hlt', app_get hA, app_get0 hA, app_set hA, app_set0 hA, Nat.add_assoc]; exact ⟨rfl, rfl⟩) (by simp [hd, hlt', app_get hA, app_get0 hA, app_set hA, app_set0 hA, Nat.add_assoc]; rfl) (by exact markText_spec _ t0.1 t0.2) (by simp) (by simp [hd, hlt', app_get hA, app_get0 hA, app_set hA, app_set0 hA, Nat.add_assoc]; rfl)) ?_
    refine RegO.opN 2 (by simp [hd, hlt', app_get hA, app_get0 hA, app_set hA, app_set0 hA, Nat.add_assoc]; rfl) ?_
    refine RegO.nil ?_
    refine DW.reg (by simp [v1]; rfl) ?_
    refine DW.reg (by simp [w1]; rfl) ?_
    clear v1
    exact ⟨(i + 1, K + 1), ⟨hlt, by simp only; omega⟩, by simp only; omega, by simp, by simp [hm, mb], by simp, by rfl⟩
  · have hil : i = l.length := by
      have : ¬ i < l.length := by simpa using hc0
      omega
    subst hil
    rw [List.take_length] at hK
    refine DW.exit ?_
    refine DW.seq ?_
    refine DW.reg (by simp; rfl) ?_
    refine DW.ret ?_
    simp [Tryd.results30, hK]
theorem markStringS_spec0 (k : Int) : Spec Tryd.prog 30 [.one (.r (.sl 0 [])), ri k] [none] [di k] [.one (.r (.sl 0 [])), ri k] := by
  refine Spec.intro Tryd.func30 rfl rfl Tryd.ntmps30 rfl (by simp) ?_
  refine DW.seq ?_
  refine DW.reg (by simp; rfl) ?_
  refine DW.seq ?_
  refine DW.seq ?_
  refine DW.reg (by simp; rfl) ?_
  refine DW.block ?_
  refine DW.loopS (α := Nat) (fun p => True) (fun p => p) (fun p => [(5, vi 0), (1, vi k)]) (fun p => []) [(0, _)] [] [] 0 (trivial) (by simp; exact rfl) (by simp) (by simp) (by rfl) ?_
  rintro p -
  refine DW.seq ?_
  refine DW.seq ?_
  refine DW.reg (by simp; rfl) ?_
  refine DW.condF (by simp) ?_
  refine DW.exit ?_
  refine DW.seq ?_
  refine DW.reg (by simp; rfl) ?_
  refine DW.ret ?_
  simp [Tryd.results30]
theorem markStepS_spec (l : List Step) (k : Int) (h0 : 0 < k) (h1 : k + (ctL l : Int) ≤ 1152921504606846976) (h : szL l ≤ 2 ^ 36) : Spec Tryd.prog 144 [.one (.m 3 l.length (rD l)), ri k] [none] [di (k + (ctL l : Int))] [.one (.m 3 l.length (rD (mkL l k))), ri k] := by
  refine Spec.intro Tryd.func144 rfl rfl Tryd.ntmps144 rfl (by simp) ?_
  have hll := szL_len l
  refine DW.seq ?_
  refine DW.reg (by simp; rfl) ?_
  refine DW.seq ?_
  refine DW.seq ?_
  refine DW.reg (by simp; rfl) ?_
  refine DW.block ?_
  refine DW.loopS (α := Nat × Int) (fun p => p.1 ≤ l.length ∧ p.2 = k + (ctL (l.take p.1) : Int)) (fun p => l.length - p.1) (fun p => [(5, vi p.1), (1, vi p.2)]) (fun p => [(0, .hold [.ow () 3 l.length (rD (mkL (l.take p.1) k) ++ rD (l.drop p.1))])]) [(0, _)] [] [(0, .sl 0 [0] 0 l.length)] (0, k) (⟨Nat.zero_le _, by simp⟩) (by simp; exact rfl) (by simp) (by simp) (by rfl) ?_
  rintro ⟨i, K⟩ ⟨hi, hK⟩
  simp only at hi hK ⊢
  refine DW.seq ?_
  refine DW.seq ?_
  refine DW.reg (by simp; rfl) ?_
  refine DW.condB (by simp; exact rfl) (fun hc0 => ?_) (fun hc0 => ?_)
  · have hlt : i < l.length := by simpa using hc0
    have hd := rD_dropc l i hlt
    have hs := szL_at l i hlt
    have hct := ctL_take l i hlt
    have hca := ctL_at l i hlt
    have hm := mkL_take l i k hlt
    replace hm := congrArg rD hm
    rw [rD_append, ← hK] at hm
    have hlt' : (i : Int) < l.length := by omega
    have w1 : IntKind.i64.wrap ((i : Int) + 1) = ((i + 1 : Nat) : Int) := (wr _ (by omega) (by omega)).trans (by omega)
    have hA : (rD (mkL (l.take i) k)).length = i * 3 := by rw [rD_len_Step, mkL_len, List.length_take, Nat.min_eq_left (by omega)]
    generalize l[i] = c at hd hs hct hca hm
    have hcc := Step_ct c
    have hcs := Step_sz c
    rw [Step_mk] at hm
    replace hm : rD (mkL (l.take (i + 1)) k) = rD (mkL (l.take i) k) ++ Step.d _ := hm.trans (by simp only [rD, List.flatMap_cons, List.flatMap_nil, List.append_nil]; rfl)
    replace hd : rD (l.drop i) = Step.d c ++ rD (l.drop (i + 1)) := hd
    have t0 : 0 < K ∧ K < 4611686018427387904 := ⟨by omega, by omega⟩
    have t1 : 0 < K + 1 ∧ K + 1 < 4611686018427387904 := ⟨by omega, by omega⟩
    have t2 : 0 < K + 2 ∧ K + 2 < 4611686018427387904 := ⟨by omega, by omega⟩
    obtain ⟨v1, v2, v3⟩ : IntKind.i64.wrap (K + 1) = K + 1 ∧ IntKind.i64.wrap (K + 1 + 1) = K + 2 ∧ IntKind.i64.wrap (K + 2 + 1) = K + 3 := ⟨(wr _ (by omega) (by omega)).trans (by omega), (wr _ (by omega) (by omega)).trans (by omega), (wr _ (by omega) (by omega)).trans (by omega)⟩
    refine DW.skip ?_
    refine DW.seq ?_
    refine DW.block ?_
    refine DW.seq ?_
    refine DW.reg (by simp [hd, hlt', app_get hA, app_get0 hA, app_set hA, app_set0 hA, Nat.add_assoc]; rfl) ?_
    refine DW.seq ?_
    refine DW.reg (by simp [v1]; rfl) ?_
    refine DW.seq ?_
    refine DW.reg (by simp [hd, hlt', app_get hA, app_get0 hA, app_set hA, app_set0 hA, Nat.add_assoc]; rfl) ?_
    refine DW.seq ?_
    refine DW.reg (by simp [v2]; rfl) ?_
    refine DW.seq ?_
    refine DW.regs ?_
    refine RegO.opN 3 (by simp [hd, hlt', app_get hA, app_get0 hA, app_set hA, app_set0 hA, Nat.add_assoc]; rfl) ?_
    refine RegO.step rfl (OpStep.callA rfl (by simp [hd, hlt', app_get hA, app_get0 hA, app_set hA, app_set0 hA, Nat.add_assoc]; exact ⟨rfl, rfl⟩) (by simp [hd, hlt', app_get hA, app_get0 hA, app_set hA, app_set0 hA, Nat.add_assoc]; rfl) (by exact markText_spec _ t2.1 t2.2) (by simp) (by simp [hd, hlt', app_get hA, app_get0 hA, app_set hA, app_set0 hA, Nat.add_assoc]; rfl)) ?_
    refine RegO.opN 3 (by simp [hd, hlt', app_get hA, app_get0 hA, app_set hA, app_set0 hA, Nat.add_assoc]; rfl) ?_
    refine RegO.nil ?_
    refine DW.reg (by simp [v3]; rfl) ?_
    refine DW.reg (by simp [w1]; rfl) ?_
    clear v1 v2 v3
    exact ⟨(i + 1, K + 3), ⟨hlt, by simp only; omega⟩, by simp only; omega, by simp, by simp [hm, mb], by simp, by rfl⟩
  · have hil : i = l.length := by
      have : ¬ i < l.length := by simpa using hc0
      omega
    subst hil
    rw [List.take_length] at hK
    refine DW.exit ?_
    refine DW.seq ?_
    refine DW.reg (by simp; rfl) ?_
    refine DW.ret ?_
    simp [Tryd.results144, hK]
theorem markStepS_spec0 (k : Int) : Spec Tryd.prog 144 [.one (.r (.sl 0 [])), ri k] [none] [di k] [.one (.r (.sl 0 [])), ri k] := by
  refine Spec.intro Tryd.func144 rfl rfl Tryd.ntmps144 rfl (by simp) ?_
  refine DW.seq ?_
  refine DW.reg (by simp; rfl) ?_
  refine DW.seq ?_
  refine DW.seq ?_
  refine DW.reg (by simp; rfl) ?_
  refine DW.block ?_
  refine DW.loopS (α := Nat) (fun p => True) (fun p => p) (fun p => [(5, vi 0), (1, vi k)]) (fun p => []) [(0, _)] [] [] 0 (trivial) (by simp; exact rfl) (by simp) (by simp) (by rfl) ?_
  rintro p -
  refine DW.seq ?_
  refine DW.seq ?_
  refine DW.reg (by simp; rfl) ?_
  refine DW.condF (by simp) ?_
  refine DW.exit ?_
  refine DW.seq ?_
  refine DW.reg (by simp; rfl) ?_
  refine DW.ret ?_
  simp [Tryd.results144]
theorem markSealingS_spec (l : List Sealing) (k : Int) (h0 : 0 < k) (h1 : k + (ctL l : Int) ≤ 1152921504606846976) (h : szL l ≤ 2 ^ 36) : Spec Tryd.prog 111 [.one (.m 3 l.length (rD l)), ri k] [none] [di (k + (ctL l : Int))] [.one (.m 3 l.length (rD (mkL l k))), ri k] := by
  refine Spec.intro Tryd.func111 rfl rfl Tryd.ntmps111 rfl (by simp) ?_
  have hll := szL_len l
  refine DW.seq ?_
  refine DW.reg (by simp; rfl) ?_
  refine DW.seq ?_
  refine DW.seq ?_
  refine DW.reg (by simp; rfl) ?_
  refine DW.block ?_
  refine DW.loopS (α := Nat × Int) (fun p => p.1 ≤ l.length ∧ p.2 = k + (ctL (l.take p.1) : Int)) (fun p => l.length - p.1) (fun p => [(5, vi p.1), (1, vi p.2)]) (fun p => [(0, .hold [.ow () 3 l.length (rD (mkL (l.take p.1) k) ++ rD (l.drop p.1))])]) [(0, _)] [] [(0, .sl 0 [0] 0 l.length)] (0, k) (⟨Nat.zero_le _, by simp⟩) (by simp; exact rfl) (by simp) (by simp) (by rfl) ?_
  rintro ⟨i, K⟩ ⟨hi, hK⟩
  simp only at hi hK ⊢
  refine DW.seq ?_
  refine DW.seq ?_
  refine DW.reg (by simp; rfl) ?_
  refine DW.condB (by simp; exact rfl) (fun hc0 => ?_) (fun hc0 => ?_)
  · have hlt : i < l.length := by simpa using hc0
    have hd := rD_dropc l i hlt
    have hs := szL_at l i hlt
    have hct := ctL_take l i hlt
    have hca := ctL_at l i hlt
    have hm := mkL_take l i k hlt
    replace hm := congrArg rD hm
    rw [rD_append, ← hK] at hm
    have hlt' : (i : Int) < l.length := by omega
    have w1 : IntKind.i64.wrap ((i : Int) + 1) = ((i + 1 : Nat) : Int) := (wr _ (by omega) (by omega)).trans (by omega)
    have hA : (rD (mkL (l.take i) k)).length = i * 3 := by rw [rD_len_Sealing, mkL_len, List.length_take, Nat.min_eq_left (by omega)]
    generalize l[i] = c at hd hs hct hca hm
    have hcc := Sealing_ct c
    have hcs := Sealing_sz c
    rw [Sealing_mk] at hm
    replace hm : rD (mkL (l.take (i + 1)) k) = rD (mkL (l.take i) k) ++ Sealing.d _ := hm.trans (by simp only [rD, List.flatMap_cons, List.flatMap_nil, List.append_nil]; rfl)
    replace hd : rD (l.drop i) = Sealing.d c ++ rD (l.drop (i + 1)) := hd
    have t0 : 0 < K ∧ K < 4611686018427387904 := ⟨by omega, by omega⟩
    have t1 : 0 < K + 1 ∧ K + 1 < 4611686018427387904 := ⟨by omega, by omega⟩
    have t2 : 0 < K + 2 ∧ K + 2 < 4611686018427387904 := ⟨by omega, by omega⟩
    obtain ⟨v1, v2, v3⟩ : IntKind.i64.wrap (K + 1) = K + 1 ∧ IntKind.i64.wrap (K + 1 + 1) = K + 2 ∧ IntKind.i64.wrap (K + 2 + 1) = K + 3 := ⟨(wr _ (by omega) (by omega)).trans (by omega), (wr _ (by omega) (by omega)).trans (by omega), (wr _ (by omega) (by omega)).trans (by omega)⟩
    refine DW.skip ?_
    refine DW.seq ?_
    refine DW.block ?_
    refine DW.seq ?_
    refine DW.regs ?_
    refine RegO.opN 3 (by simp [hd, hlt', app_get hA, app_get0 hA, app_set hA, app_set0 hA, Nat.add_assoc]; rfl) ?_
    refine RegO.step rfl (OpStep.callA rfl (by simp [hd, hlt', app_get hA, app_get0 hA, app_set hA, app_set0 hA, Nat.add_assoc]; exact ⟨rfl, rfl⟩) (by simp [hd, hlt', app_get hA, app_get0 hA, app_set hA, app_set0 hA, Nat.add_assoc]; rfl) (by exact markText_spec _ t0.1 t0.2) (by simp) (by simp [hd, hlt', app_get hA, app_get0 hA, app_set hA, app_set0 hA, Nat.add_assoc]; rfl)) ?_
    refine RegO.opN 3 (by simp [hd, hlt', app_get hA, app_get0 hA, app_set hA, app_set0 hA, Nat.add_assoc]; rfl) ?_
    refine RegO.nil ?_
    refine DW.seq ?_
    refine DW.reg (by simp [v1]; rfl) ?_
    refine DW.seq ?_
    refine DW.regs ?_
    refine RegO.opN 3 (by simp [hd, hlt', app_get hA, app_get0 hA, app_set hA, app_set0 hA, Nat.add_assoc]; rfl) ?_
    refine RegO.step rfl (OpStep.callA rfl (by simp [hd, hlt', app_get hA, app_get0 hA, app_set hA, app_set0 hA, Nat.add_assoc]; exact ⟨rfl, rfl⟩) (by simp [hd, hlt', app_get hA, app_get0 hA, app_set hA, app_set0 hA, Nat.add_assoc]; rfl) (by exact markText_spec _ t1.1 t1.2) (by simp) (by simp [hd, hlt', app_get hA, app_get0 hA, app_set hA, app_set0 hA, Nat.add_assoc]; rfl)) ?_
    refine RegO.opN 3 (by simp [hd, hlt', app_get hA, app_get0 hA, app_set hA, app_set0 hA, Nat.add_assoc]; rfl) ?_
    refine RegO.nil ?_
    refine DW.seq ?_
    refine DW.reg (by simp [v2]; rfl) ?_
    refine DW.seq ?_
    refine DW.regs ?_
    refine RegO.opN 3 (by simp [hd, hlt', app_get hA, app_get0 hA, app_set hA, app_set0 hA, Nat.add_assoc]; rfl) ?_
    refine RegO.step rfl (OpStep.callA rfl (by simp [hd, hlt', app_get hA, app_get0 hA, app_set hA, app_set0 hA, Nat.add_assoc]; exact ⟨rfl, rfl⟩) (by simp [hd, hlt', app_get hA, app_get0 hA, app_set hA, app_set0 hA, Nat.add_assoc]; rfl) (by exact markText_spec _ t2.1 t2.2) (by simp) (by simp [hd, hlt', app_get hA, app_get0 hA, app_set hA, app_set0 hA, Nat.add_assoc]; rfl)) ?_
    refine RegO.opN 3 (by simp [hd, hlt', app_get hA, app_get0 hA, app_set hA, app_set0 hA, Nat.add_assoc]; rfl) ?_
    refine RegO.nil ?_
    refine DW.reg (by simp [v3]; rfl) ?_
    refine DW.reg (by simp [w1]; rfl) ?_
    clear v1 v2 v3
    exact ⟨(i + 1, K + 3), ⟨hlt, by simp only; omega⟩, by simp only; omega, by simp, by simp [hm, mb], by simp, by rfl⟩
  · have hil : i = l.length := by
      have : ¬ i < l.length := by simpa using hc0
      omega
    subst hil
    rw [List.take_length] at hK
    refine DW.exit ?_
    refine DW.seq ?_
    refine DW.reg (by simp; rfl) ?_
    refine DW.ret ?_
    simp [Tryd.results111, hK]
theorem markSealingS_spec0 (k : Int) : Spec Tryd.prog 111 [.one (.r (.sl 0 [])), ri k] [none] [di k] [.one (.r (.sl 0 [])), ri k] := by
  refine Spec.intro Tryd.func111 rfl rfl Tryd.ntmps111 rfl (by simp) ?_
  refine DW.seq ?_
  refine DW.reg (by simp; rfl) ?_
  refine DW.seq ?_
  refine DW.seq ?_
  refine DW.reg (by simp; rfl) ?_
  refine DW.block ?_
  refine DW.loopS (α := Nat) (fun p => True) (fun p => p) (fun p => [(5, vi 0), (1, vi k)]) (fun p => []) [(0, _)] [] [] 0 (trivial) (by simp; exact rfl) (by simp) (by simp) (by rfl) ?_
  rintro p -
  refine DW.seq ?_
  refine DW.seq ?_
  refine DW.reg (by simp; rfl) ?_
  refine DW.condF (by simp) ?_
  refine DW.exit ?_
  refine DW.seq ?_
  refine DW.reg (by simp; rfl) ?_
  refine DW.ret ?_
  simp [Tryd.results111]
theorem markJobS_spec (l : List Job) (k : Int) (h0 : 0 < k) (h1 : k + (ctL l : Int) ≤ 1152921504606846976) (h : szL l ≤ 2 ^ 36) : Spec Tryd.prog 110 [.one (.m 16 l.length (rD l)), ri k] [none] [di (k + (ctL l : Int))] [.one (.m 16 l.length (rD (mkL l k))), ri k] := by
  refine Spec.intro Tryd.func110 rfl rfl Tryd.ntmps110 rfl (by simp) ?_
  have hll := szL_len l
  refine DW.seq ?_
  refine DW.reg (by simp; rfl) ?_
  refine DW.seq ?_
  refine DW.seq ?_
  refine DW.reg (by simp; rfl) ?_
  refine DW.block ?_
  refine DW.loopS (α := Nat × Int) (fun p => p.1 ≤ l.length ∧ p.2 = k + (ctL (l.take p.1) : Int)) (fun p => l.length - p.1) (fun p => [(5, vi p.1), (1, vi p.2)]) (fun p => [(0, .hold [.ow () 16 l.length (rD (mkL (l.take p.1) k) ++ rD (l.drop p.1))])]) [(0, _)] [] [(0, .sl 0 [0] 0 l.length)] (0, k) (⟨Nat.zero_le _, by simp⟩) (by simp; exact rfl) (by simp) (by simp) (by rfl) ?_
  rintro ⟨i, K⟩ ⟨hi, hK⟩
  simp only at hi hK ⊢
  refine DW.seq ?_
  refine DW.seq ?_
  refine DW.reg (by simp; rfl) ?_
  refine DW.condB (by simp; exact rfl) (fun hc0 => ?_) (fun hc0 => ?_)
  · have hlt : i < l.length := by simpa using hc0
    have hd := rD_dropc l i hlt
    have hs := szL_at l i hlt
    have hct := ctL_take l i hlt
    have hca := ctL_at l i hlt
    have hm := mkL_take l i k hlt
    replace hm := congrArg rD hm
    rw [rD_append, ← hK] at hm
    have hlt' : (i : Int) < l.length := by omega
    have w1 : IntKind.i64.wrap ((i : Int) + 1) = ((i + 1 : Nat) : Int) := (wr _ (by omega) (by omega)).trans (by omega)
    have hA : (rD (mkL (l.take i) k)).length = i * 16 := by rw [rD_len_Job, mkL_len, List.length_take, Nat.min_eq_left (by omega)]
    generalize l[i] = c at hd hs hct hca hm
    have hcc := Job_ct c
    have hcs := Job_sz c
    rw [Job_mk] at hm
    replace hm : rD (mkL (l.take (i + 1)) k) = rD (mkL (l.take i) k) ++ Job.d _ := hm.trans (by simp only [rD, List.flatMap_cons, List.flatMap_nil, List.append_nil]; rfl)
    replace hd : rD (l.drop i) = Job.d c ++ rD (l.drop (i + 1)) := hd
    have hn0 := Ask_sz c.Ask
    have hn1 := Result_sz c.Result
    have t0 : 0 < K ∧ K < 4611686018427387904 := ⟨by omega, by omega⟩
    have t1 : 0 < K + 1 ∧ K + 1 < 4611686018427387904 := ⟨by omega, by omega⟩
    have t2 : 0 < K + 2 ∧ K + 2 < 4611686018427387904 := ⟨by omega, by omega⟩
    have t3 : 0 < K + 3 ∧ K + 3 < 4611686018427387904 := ⟨by omega, by omega⟩
    have t4 : 0 < K + 4 ∧ K + 4 < 4611686018427387904 := ⟨by omega, by omega⟩
    have t5 : 0 < K + 5 ∧ K + 5 < 4611686018427387904 := ⟨by omega, by omega⟩
    have t6 : 0 < K + 6 ∧ K + 6 < 4611686018427387904 := ⟨by omega, by omega⟩
    have t7 : 0 < K + 7 ∧ K + 7 < 4611686018427387904 := ⟨by omega, by omega⟩
    have t8 : 0 < K + 8 ∧ K + 8 < 4611686018427387904 := ⟨by omega, by omega⟩
    have t9 : 0 < K + 9 ∧ K + 9 < 4611686018427387904 := ⟨by omega, by omega⟩
    have u1 : 0 < K + 10 ∧ K + 10 + (ctL c.Result.Names : Int) ≤ 1152921504606846976 ∧ szL c.Result.Names ≤ 2 ^ 36 ∧ ¬ (K + 10 + (ctL c.Result.Names : Int) < 0) := ⟨by omega, by omega, by omega, by omega⟩
    have u2 : 0 < K + 10 + (ctL c.Result.Names : Int) ∧ K + 10 + (ctL c.Result.Names : Int) + (ctL c.Steps : Int) ≤ 1152921504606846976 ∧ szL c.Steps ≤ 2 ^ 36 ∧ ¬ (K + 10 + (ctL c.Result.Names : Int) + (ctL c.Steps : Int) < 0) := ⟨by omega, by omega, by omega, by omega⟩
    have u3 : 0 < K + 10 + (ctL c.Result.Names : Int) + (ctL c.Steps : Int) ∧ K + 10 + (ctL c.Result.Names : Int) + (ctL c.Steps : Int) + (ctL c.Seals : Int) ≤ 1152921504606846976 ∧ szL c.Seals ≤ 2 ^ 36 ∧ ¬ (K + 10 + (ctL c.Result.Names : Int) + (ctL c.Steps : Int) + (ctL c.Seals : Int) < 0) := ⟨by omega, by omega, by omega, by omega⟩
    have t10 : 0 < K + 10 + (ctL c.Result.Names : Int) + (ctL c.Steps : Int) + (ctL c.Seals : Int) ∧ K + 10 + (ctL c.Result.Names : Int) + (ctL c.Steps : Int) + (ctL c.Seals : Int) < 4611686018427387904 := ⟨by omega, by omega⟩
    have t11 : 0 < K + 11 + (ctL c.Result.Names : Int) + (ctL c.Steps : Int) + (ctL c.Seals : Int) ∧ K + 11 + (ctL c.Result.Names : Int) + (ctL c.Steps : Int) + (ctL c.Seals : Int) < 4611686018427387904 := ⟨by omega, by omega⟩
    have t12 : 0 < K + 12 + (ctL c.Result.Names : Int) + (ctL c.Steps : Int) + (ctL c.Seals : Int) ∧ K + 12 + (ctL c.Result.Names : Int) + (ctL c.Steps : Int) + (ctL c.Seals : Int) < 4611686018427387904 := ⟨by omega, by omega⟩
    obtain ⟨v1, v2, v3, v4, v5, v6, v7, v8, v9, v10, v11, v12, v13⟩ : IntKind.i64.wrap (K + 1) = K + 1 ∧ IntKind.i64.wrap (K + 1 + 1) = K + 2 ∧ IntKind.i64.wrap (K + 2 + 1) = K + 3 ∧ IntKind.i64.wrap (K + 3 + 1) = K + 4 ∧ IntKind.i64.wrap (K + 4 + 1) = K + 5 ∧ IntKind.i64.wrap (K + 5 + 1) = K + 6 ∧ IntKind.i64.wrap (K + 6 + 1) = K + 7 ∧ IntKind.i64.wrap (K + 7 + 1) = K + 8 ∧ IntKind.i64.wrap (K + 8 + 1) = K + 9 ∧ IntKind.i64.wrap (K + 9 + 1) = K + 10 ∧ IntKind.i64.wrap (K + 10 + (ctL c.Result.Names : Int) + (ctL c.Steps : Int) + (ctL c.Seals : Int) + 1) = K + 11 + (ctL c.Result.Names : Int) + (ctL c.Steps : Int) + (ctL c.Seals : Int) ∧ IntKind.i64.wrap (K + 11 + (ctL c.Result.Names : Int) + (ctL c.Steps : Int) + (ctL c.Seals : Int) + 1) = K + 12 + (ctL c.Result.Names : Int) + (ctL c.Steps : Int) + (ctL c.Seals : Int) ∧ IntKind.i64.wrap (K + 12 + (ctL c.Result.Names : Int) + (ctL c.Steps : Int) + (ctL c.Seals : Int) + 1) = K + 13 + (ctL c.Result.Names : Int) + (ctL c.Steps : Int) + (ctL c.Seals : Int) := ⟨(wr _ (by omega) (by omega)).trans (by omega), (wr _ (by omega) (by omega)).trans (by omega), (wr _ (by omega) (by omega)).trans (by omega), (wr _ (by omega) (by omega)).trans (by omega), (wr _ (by omega) (by omega)).trans (by omega), (wr _ (by omega) (by omega)).trans (by omega), (wr _ (by omega) (by omega)).trans (by omega), (wr _ (by omega) (by omega)).trans (by omega), (wr _ (by omega) (by omega)).trans (by omega), (wr _ (by omega) (by omega)).trans (by omega), (wr _ (by omega) (by omega)).trans (by omega), (wr _ (by omega) (by omega)).trans (by omega), (wr _ (by omega) (by omega)).trans (by omega)⟩
    refine DW.skip ?_
    refine DW.seq ?_
    refine DW.block ?_
    refine DW.seq ?_
    refine DW.reg (by simp [hd, hlt', app_get hA, app_get0 hA, app_set hA, app_set0 hA, Nat.add_assoc]; rfl) ?_
    refine DW.seq ?_
    refine DW.reg (by simp [v1]; rfl) ?_
    refine DW.norm [(0, _), (5, _), (1, _)] [(0, _)] [(0, _)] (by simp; exact ⟨rfl, rfl, rfl⟩) (by simp; rfl) (by simp; rfl) (by rfl) ?_
    refine DW.seq ?_
    refine DW.regs ?_
    refine RegO.opN 3 (by simp [hd, hlt', app_get hA, app_get0 hA, app_set hA, app_set0 hA, Nat.add_assoc]; rfl) ?_
    refine RegO.step rfl (OpStep.callA rfl (by simp [hd, hlt', app_get hA, app_get0 hA, app_set hA, app_set0 hA, Nat.add_assoc]; exact ⟨rfl, rfl⟩) (by simp [hd, hlt', app_get hA, app_get0 hA, app_set hA, app_set0 hA, Nat.add_assoc]; rfl) (by exact markText_spec _ t1.1 t1.2) (by simp) (by simp [hd, hlt', app_get hA, app_get0 hA, app_set hA, app_set0 hA, Nat.add_assoc]; rfl)) ?_
    refine RegO.opN 4 (by simp [hd, hlt', app_get hA, app_get0 hA, app_set hA, app_set0 hA, Nat.add_assoc]; rfl) ?_
    refine RegO.nil ?_
    refine DW.seq ?_
    refine DW.reg (by simp [v2]; rfl) ?_
    refine DW.norm [(0, _), (5, _), (1, _)] [(0, _)] [(0, _)] (by simp; exact ⟨rfl, rfl, rfl⟩) (by simp; rfl) (by simp; rfl) (by rfl) ?_
    refine DW.seq ?_
    refine DW.regs ?_
    refine RegO.opN 3 (by simp [hd, hlt', app_get hA, app_get0 hA, app_set hA, app_set0 hA, Nat.add_assoc]; rfl) ?_
    refine RegO.step rfl (OpStep.callA rfl (by simp [hd, hlt', app_get hA, app_get0 hA, app_set hA, app_set0 hA, Nat.add_assoc]; exact ⟨rfl, rfl⟩) (by simp [hd, hlt', app_get hA, app_get0 hA, app_set hA, app_set0 hA, Nat.add_assoc]; rfl) (by exact markText_spec _ t2.1 t2.2) (by simp) (by simp [hd, hlt', app_get hA, app_get0 hA, app_set hA, app_set0 hA, Nat.add_assoc]; rfl)) ?_
    refine RegO.opN 4 (by simp [hd, hlt', app_get hA, app_get0 hA, app_set hA, app_set0 hA, Nat.add_assoc]; rfl) ?_
    refine RegO.nil ?_
    refine DW.seq ?_
    refine DW.reg (by simp [v3]; rfl) ?_
    refine DW.norm [(0, _), (5, _), (1, _)] [(0, _)] [(0, _)] (by simp; exact ⟨rfl, rfl, rfl⟩) (by simp; rfl) (by simp; rfl) (by rfl) ?_
    refine DW.seq ?_
    refine DW.reg (by simp [hd, hlt', app_get hA, app_get0 hA, app_set hA, app_set0 hA, Nat.add_assoc]; rfl) ?_
    refine DW.seq ?_
    refine DW.reg (by simp [v4]; rfl) ?_
    refine DW.norm [(0, _), (5, _), (1, _)] [(0, _)] [(0, _)] (by simp; exact ⟨rfl, rfl, rfl⟩) (by simp; rfl) (by simp; rfl) (by rfl) ?_
    refine DW.seq ?_
    refine DW.reg (by simp [hd, hlt', app_get hA, app_get0 hA, app_set hA, app_set0 hA, Nat.add_assoc]; rfl) ?_
    refine DW.seq ?_
    refine DW.reg (by simp [v5]; rfl) ?_
    refine DW.norm [(0, _), (5, _), (1, _)] [(0, _)] [(0, _)] (by simp; exact ⟨rfl, rfl, rfl⟩) (by simp; rfl) (by simp; rfl) (by rfl) ?_
    refine DW.seq ?_
    refine DW.regs ?_
    refine RegO.opN 3 (by simp [hd, hlt', app_get hA, app_get0 hA, app_set hA, app_set0 hA, Nat.add_assoc]; rfl) ?_
    refine RegO.step rfl (OpStep.callA rfl (by simp [hd, hlt', app_get hA, app_get0 hA, app_set hA, app_set0 hA, Nat.add_assoc]; exact ⟨rfl, rfl⟩) (by simp [hd, hlt', app_get hA, app_get0 hA, app_set hA, app_set0 hA, Nat.add_assoc]; rfl) (by exact markText_spec _ t5.1 t5.2) (by simp) (by simp [hd, hlt', app_get hA, app_get0 hA, app_set hA, app_set0 hA, Nat.add_assoc]; rfl)) ?_
    refine RegO.opN 4 (by simp [hd, hlt', app_get hA, app_get0 hA, app_set hA, app_set0 hA, Nat.add_assoc]; rfl) ?_
    refine RegO.nil ?_
    refine DW.seq ?_
    refine DW.reg (by simp [v6]; rfl) ?_
    refine DW.norm [(0, _), (5, _), (1, _)] [(0, _)] [(0, _)] (by simp; exact ⟨rfl, rfl, rfl⟩) (by simp; rfl) (by simp; rfl) (by rfl) ?_
    refine DW.seq ?_
    refine DW.reg (by simp [hd, hlt', app_get hA, app_get0 hA, app_set hA, app_set0 hA, Nat.add_assoc]; rfl) ?_
    refine DW.seq ?_
    refine DW.reg (by simp [v7]; rfl) ?_
    refine DW.norm [(0, _), (5, _), (1, _)] [(0, _)] [(0, _)] (by simp; exact ⟨rfl, rfl, rfl⟩) (by simp; rfl) (by simp; rfl) (by rfl) ?_
    refine DW.seq ?_
    refine DW.regs ?_
    refine RegO.opN 3 (by simp [hd, hlt', app_get hA, app_get0 hA, app_set hA, app_set0 hA, Nat.add_assoc]; rfl) ?_
    refine RegO.step rfl (OpStep.callA rfl (by simp [hd, hlt', app_get hA, app_get0 hA, app_set hA, app_set0 hA, Nat.add_assoc]; exact ⟨rfl, rfl⟩) (by simp [hd, hlt', app_get hA, app_get0 hA, app_set hA, app_set0 hA, Nat.add_assoc]; rfl) (by exact markText_spec _ t7.1 t7.2) (by simp) (by simp [hd, hlt', app_get hA, app_get0 hA, app_set hA, app_set0 hA, Nat.add_assoc]; rfl)) ?_
    refine RegO.opN 4 (by simp [hd, hlt', app_get hA, app_get0 hA, app_set hA, app_set0 hA, Nat.add_assoc]; rfl) ?_
    refine RegO.nil ?_
    refine DW.seq ?_
    refine DW.reg (by simp [v8]; rfl) ?_
    refine DW.norm [(0, _), (5, _), (1, _)] [(0, _)] [(0, _)] (by simp; exact ⟨rfl, rfl, rfl⟩) (by simp; rfl) (by simp; rfl) (by rfl) ?_
    refine DW.seq ?_
    refine DW.reg (by simp [hd, hlt', app_get hA, app_get0 hA, app_set hA, app_set0 hA, Nat.add_assoc]; rfl) ?_
    refine DW.seq ?_
    refine DW.reg (by simp [v9]; rfl) ?_
    refine DW.norm [(0, _), (5, _), (1, _)] [(0, _)] [(0, _)] (by simp; exact ⟨rfl, rfl, rfl⟩) (by simp; rfl) (by simp; rfl) (by rfl) ?_
    refine DW.seq ?_
    refine DW.reg (by simp [hd, hlt', app_get hA, app_get0 hA, app_set hA, app_set0 hA, Nat.add_assoc]; rfl) ?_
    refine DW.seq ?_
    refine DW.reg (by simp [v10]; rfl) ?_
    refine DW.norm [(0, _), (5, _), (1, _)] [(0, _)] [(0, _)] (by simp; exact ⟨rfl, rfl, rfl⟩) (by simp; rfl) (by simp; rfl) (by rfl) ?_
    refine DW.seq ?_
    refine DW.regs ?_
    refine RegO.opN 7 (by simp [hd, hlt', app_get hA, app_get0 hA, app_set hA, app_set0 hA, Nat.add_assoc]; rfl) ?_
    refine RegO.step rfl (OpStep.callL (io := 0) rfl (by simp [hd, hlt', app_get hA, app_get0 hA, app_set hA, app_set0 hA, Nat.add_assoc]; rfl) (markStringS_spec c.Result.Names (K + 10) u1.1 u1.2.1 u1.2.2.1) (by rfl) (by rfl) (by rfl) (by rfl) (by simp [lendL, FS.lend, hd, hlt', app_get hA, app_get0 hA, app_set hA, app_set0 hA, Nat.add_assoc]; exact ⟨rfl, rfl⟩) (by simp [apartP]) (by simp) (by simp [hd, hlt', app_get hA, app_get0 hA, app_set hA, app_set0 hA, Nat.add_assoc]; rfl) (by simp [rosOk]) (by simp) (by simp [backFS, hBack, pzsC, pzS, paCells, PC.tree, hd, hlt', app_get hA, app_get0 hA, app_set hA, app_set0 hA, Nat.add_assoc]; rfl)) ?_
    refine RegO.opN 1 (by simp [hd, hlt', app_get hA, app_get0 hA, app_set hA, app_set0 hA, Nat.add_assoc]; rfl) ?_
    refine RegO.nil ?_
    refine DW.seq ?_
    refine DW.regs ?_
    refine RegO.opN 6 (by simp [hd, hlt', app_get hA, app_get0 hA, app_set hA, app_set0 hA, Nat.add_assoc]; rfl) ?_
    refine RegO.step rfl (OpStep.callL (io := 0) rfl (by simp [hd, hlt', app_get hA, app_get0 hA, app_set hA, app_set0 hA, Nat.add_assoc]; rfl) (markStepS_spec c.Steps (K + 10 + (ctL c.Result.Names : Int)) u2.1 u2.2.1 u2.2.2.1) (by rfl) (by rfl) (by rfl) (by rfl) (by simp [lendL, FS.lend, hd, hlt', app_get hA, app_get0 hA, app_set hA, app_set0 hA, Nat.add_assoc]; exact ⟨rfl, rfl⟩) (by simp [apartP]) (by simp) (by simp [hd, hlt', app_get hA, app_get0 hA, app_set hA, app_set0 hA, Nat.add_assoc]; rfl) (by simp [rosOk]) (by simp) (by simp [backFS, hBack, pzsC, pzS, paCells, PC.tree, hd, hlt', app_get hA, app_get0 hA, app_set hA, app_set0 hA, Nat.add_assoc]; rfl)) ?_
    refine RegO.opN 1 (by simp [hd, hlt', app_get hA, app_get0 hA, app_set hA, app_set0 hA, Nat.add_assoc]; rfl) ?_
    refine RegO.nil ?_
    refine DW.seq ?_
    refine DW.regs ?_
    refine RegO.opN 6 (by simp [hd, hlt', app_get hA, app_get0 hA, app_set hA, app_set0 hA, Nat.add_assoc]; rfl) ?_
    refine RegO.step rfl (OpStep.callL (io := 0) rfl (by simp [hd, hlt', app_get hA, app_get0 hA, app_set hA, app_set0 hA, Nat.add_assoc]; rfl) (markSealingS_spec c.Seals (K + 10 + (ctL c.Result.Names : Int) + (ctL c.Steps : Int)) u3.1 u3.2.1 u3.2.2.1) (by rfl) (by rfl) (by rfl) (by rfl) (by simp [lendL, FS.lend, hd, hlt', app_get hA, app_get0 hA, app_set hA, app_set0 hA, Nat.add_assoc]; exact ⟨rfl, rfl⟩) (by simp [apartP]) (by simp) (by simp [hd, hlt', app_get hA, app_get0 hA, app_set hA, app_set0 hA, Nat.add_assoc]; rfl) (by simp [rosOk]) (by simp) (by simp [backFS, hBack, pzsC, pzS, paCells, PC.tree, hd, hlt', app_get hA, app_get0 hA, app_set hA, app_set0 hA, Nat.add_assoc]; rfl)) ?_
    refine RegO.opN 1 (by simp [hd, hlt', app_get hA, app_get0 hA, app_set hA, app_set0 hA, Nat.add_assoc]; rfl) ?_
    refine RegO.nil ?_
    refine DW.seq ?_
    refine DW.reg (by simp [hd, hlt', app_get hA, app_get0 hA, app_set hA, app_set0 hA, Nat.add_assoc]; rfl) ?_
    refine DW.seq ?_
    refine DW.reg (by simp [v11]; rfl) ?_
    refine DW.norm [(0, _), (5, _), (1, _)] [(0, _)] [(0, _)] (by simp; exact ⟨rfl, rfl, rfl⟩) (by simp; rfl) (by simp; rfl) (by rfl) ?_
    refine DW.seq ?_
    refine DW.reg (by simp [hd, hlt', app_get hA, app_get0 hA, app_set hA, app_set0 hA, Nat.add_assoc]; rfl) ?_
    refine DW.seq ?_
    refine DW.reg (by simp [v12]; rfl) ?_
    refine DW.norm [(0, _), (5, _), (1, _)] [(0, _)] [(0, _)] (by simp; exact ⟨rfl, rfl, rfl⟩) (by simp; rfl) (by simp; rfl) (by rfl) ?_
    refine DW.seq ?_
    refine DW.reg (by simp [hd, hlt', app_get hA, app_get0 hA, app_set hA, app_set0 hA, Nat.add_assoc]; rfl) ?_
    refine DW.reg (by simp [v13]; rfl) ?_
    refine DW.norm [(0, _), (5, _), (1, _)] [(0, _)] [(0, _)] (by simp; exact ⟨rfl, rfl, rfl⟩) (by simp; rfl) (by simp; rfl) (by rfl) ?_
    refine DW.reg (by simp [w1]; rfl) ?_
    clear v1 v2 v3 v4 v5 v6 v7 v8 v9 v10 v11 v12 v13
    exact ⟨(i + 1, K + 13 + (ctL c.Result.Names : Int) + (ctL c.Steps : Int) + (ctL c.Seals : Int)), ⟨hlt, by simp only; omega⟩, by simp only; omega, by simp, by simp [hm, mb], by simp, by rfl⟩
  · have hil : i = l.length := by
      have : ¬ i < l.length := by simpa using hc0
      omega
    subst hil
    rw [List.take_length] at hK
    refine DW.exit ?_
    refine DW.seq ?_
    refine DW.reg (by simp; rfl) ?_
    refine DW.ret ?_
    simp [Tryd.results110, hK]
theorem markJobS_spec0 (k : Int) : Spec Tryd.prog 110 [.one (.r (.sl 0 [])), ri k] [none] [di k] [.one (.r (.sl 0 [])), ri k] := by
  refine Spec.intro Tryd.func110 rfl rfl Tryd.ntmps110 rfl (by simp) ?_
  refine DW.seq ?_
  refine DW.reg (by simp; rfl) ?_
  refine DW.seq ?_
  refine DW.seq ?_
  refine DW.reg (by simp; rfl) ?_
  refine DW.block ?_
  refine DW.loopS (α := Nat) (fun p => True) (fun p => p) (fun p => [(5, vi 0), (1, vi k)]) (fun p => []) [(0, _)] [] [] 0 (trivial) (by simp; exact rfl) (by simp) (by simp) (by rfl) ?_
  rintro p -
  refine DW.seq ?_
  refine DW.seq ?_
  refine DW.reg (by simp; rfl) ?_
  refine DW.condF (by simp) ?_
  refine DW.exit ?_
  refine DW.seq ?_
  refine DW.reg (by simp; rfl) ?_
  refine DW.ret ?_
  simp [Tryd.results110]
theorem markSystem_spec (a : System) (k : Int) (h0 : 0 < k) (h1 : k + (System.ctT a : Int) ≤ 1152921504606846976) (h : Row.sz a ≤ 2 ^ 36) : Spec Tryd.prog 69 [maSystem a, ri k] [none] [di (k + (System.ctT a : Int))] [maSystem (System.mkT a k), ri k] := by
  refine Spec.intro Tryd.func69 rfl rfl Tryd.ntmps69 rfl (by simp) ?_
  have hz := System_sz a
  have hT : System.ctT a = Memory.ctT a.Memory + ctL a.Jobs + ctL a.Seals := by simp only [System.mkT, System.ctT, Memory.mkT, Memory.ctT] <;> omega
  have hzGeo := Geo_sz a.Geo
  have hzMemory := Memory_sz a.Memory
  have u0 : 0 < k ∧ k + (Memory.ctT a.Memory : Int) ≤ 1152921504606846976 ∧ Row.sz a.Memory ≤ 2 ^ 36 := ⟨by omega, by omega, by omega⟩
  have u1 : 0 < k + (Memory.ctT a.Memory : Int) ∧ k + (Memory.ctT a.Memory : Int) + (ctL a.Jobs : Int) ≤ 1152921504606846976 ∧ szL a.Jobs ≤ 2 ^ 36 := ⟨by omega, by omega, by omega⟩
  have u2 : 0 < k + (Memory.ctT a.Memory : Int) + (ctL a.Jobs : Int) ∧ k + (Memory.ctT a.Memory : Int) + (ctL a.Jobs : Int) + (ctL a.Seals : Int) ≤ 1152921504606846976 ∧ szL a.Seals ≤ 2 ^ 36 := ⟨by omega, by omega, by omega⟩
  have hTT : k + (System.ctT a : Int) = k + (Memory.ctT a.Memory : Int) + (ctL a.Jobs : Int) + (ctL a.Seals : Int) := by omega
  obtain ⟨⟨a_Geo_Tenants, a_Geo_Pages, a_Geo_Inodes, a_Geo_Quota⟩, ⟨a_Memory_Kept, a_Memory_Cells⟩, a_Jobs, a_Seals⟩ := a
  simp only at *
  rcases nil_or_pos' a_Memory_Cells with ⟨m0, n0, e0, p0, rfl⟩ | ⟨m0, n0, e0, p0, -⟩ <;> rcases nil_or_pos' a_Jobs with ⟨m1, n1, e1, p1, rfl⟩ | ⟨m1, n1, e1, p1, -⟩ <;> rcases nil_or_pos' a_Seals with ⟨m2, n2, e2, p2, rfl⟩ | ⟨m2, n2, e2, p2, -⟩
  all_goals
    refine DW.ghost (Ghost.empty 0) ?_
    refine DW.seq ?_
    refine DW.regs ?_
    refine RegO.step rfl (OpStep.boxR rfl rfl (by decide) (by simp [m0, n0, e0, p0, m1, n1, e1, p1, m2, n2, e2, p2, Memory.mkT]; rfl) (by simp [m0, n0, e0, p0, m1, n1, e1, p1, m2, n2, e2, p2, Memory.mkT]; first | exact ⟨rfl, rfl⟩ | rfl) (by simp) (by simp)) ?_
    refine RegO.opN 1 (by simp; rfl) ?_
    refine RegO.nil ?_
    first
      | refine DW.norm [(1, _), (2, _)] [(0, _), (2, _)] [(5, _), (6, _), (7, _)] (by simp [m0, n0, e0, p0, m1, n1, e1, p1, m2, n2, e2, p2, Memory.mkT]; exact ⟨rfl, rfl⟩) (by simp [m0, n0, e0, p0, m1, n1, e1, p1, m2, n2, e2, p2, Memory.mkT]; exact ⟨rfl, rfl⟩) (by simp [m0, n0, e0, p0, m1, n1, e1, p1, m2, n2, e2, p2, Memory.mkT]; exact ⟨rfl, rfl, rfl⟩) (by rfl) ?_
      | refine DW.norm [(1, _), (2, _)] [(2, _)] [] (by simp [m0, n0, e0, p0, m1, n1, e1, p1, m2, n2, e2, p2, Memory.mkT]; exact ⟨rfl, rfl⟩) (by simp [m0, n0, e0, p0, m1, n1, e1, p1, m2, n2, e2, p2, Memory.mkT]; rfl) (by simp [m0, n0, e0, p0, m1, n1, e1, p1, m2, n2, e2, p2, Memory.mkT]) (by rfl) ?_
    refine DW.seq ?_
    refine DW.regs ?_
    refine RegO.opN 3 (by simp [m0, n0, e0, p0, m1, n1, e1, p1, m2, n2, e2, p2, Memory.mkT]; rfl) ?_
    refine RegO.step rfl (OpStep.callL (io := 0) rfl (by simp [m0, n0, e0, p0, m1, n1, e1, p1, m2, n2, e2, p2, Memory.mkT]; rfl) (markMemory_spec _ _ u0.1 u0.2.1 u0.2.2) (by rfl) (by rfl) (by rfl) (by rfl) (by simp [lendL, FS.lend, m0, n0, e0, p0, m1, n1, e1, p1, m2, n2, e2, p2, Memory.mkT]; exact ⟨rfl, rfl⟩) (by simp [apartP]) (by simp) (by simp [m0, n0, e0, p0, m1, n1, e1, p1, m2, n2, e2, p2, Memory.mkT]; rfl) (by simp [rosOk]) (by simp) (by simp [backFS, hBack, pzsC, pzS, paCells, PC.tree, m0, n0, e0, p0, m1, n1, e1, p1, m2, n2, e2, p2, Memory.mkT]; rfl)) ?_
    refine RegO.opN 1 (by simp [m0, n0, e0, p0, m1, n1, e1, p1, m2, n2, e2, p2, Memory.mkT]; rfl) ?_
    refine RegO.nil ?_
    first
      | refine DW.norm [(1, _), (2, _)] [(0, _), (2, _)] [(5, _), (6, _), (7, _)] (by simp [m0, n0, e0, p0, m1, n1, e1, p1, m2, n2, e2, p2, Memory.mkT]; exact ⟨rfl, rfl⟩) (by simp [m0, n0, e0, p0, m1, n1, e1, p1, m2, n2, e2, p2, Memory.mkT]; exact ⟨rfl, rfl⟩) (by simp [m0, n0, e0, p0, m1, n1, e1, p1, m2, n2, e2, p2, Memory.mkT]; exact ⟨rfl, rfl, rfl⟩) (by rfl) ?_
      | refine DW.norm [(1, _), (2, _)] [(2, _)] [] (by simp [m0, n0, e0, p0, m1, n1, e1, p1, m2, n2, e2, p2, Memory.mkT]; exact ⟨rfl, rfl⟩) (by simp [m0, n0, e0, p0, m1, n1, e1, p1, m2, n2, e2, p2, Memory.mkT]; rfl) (by simp [m0, n0, e0, p0, m1, n1, e1, p1, m2, n2, e2, p2, Memory.mkT]) (by rfl) ?_
    refine DW.seq ?_
    refine DW.regs ?_
    refine RegO.opN 3 (by simp [m0, n0, e0, p0, m1, n1, e1, p1, m2, n2, e2, p2, Memory.mkT]; rfl) ?_
    first
      | (refine RegO.step rfl (OpStep.callL (io := 0) rfl (by simp [m0, n0, e0, p0, m1, n1, e1, p1, m2, n2, e2, p2, Memory.mkT]; rfl) (markJobS_spec _ _ u1.1 u1.2.1 u1.2.2) (by rfl) (by rfl) (by rfl) (by rfl) (by simp [lendL, FS.lend, m0, n0, e0, p0, m1, n1, e1, p1, m2, n2, e2, p2, Memory.mkT]; exact ⟨rfl, rfl⟩) (by simp [apartP]) (by simp) (by simp [m0, n0, e0, p0, m1, n1, e1, p1, m2, n2, e2, p2, Memory.mkT]; rfl) (by simp [rosOk]) (by simp) (by simp [backFS, hBack, pzsC, pzS, paCells, PC.tree, m0, n0, e0, p0, m1, n1, e1, p1, m2, n2, e2, p2, Memory.mkT]; rfl)) ?_)
      | refine RegO.step rfl (OpStep.callA rfl (by simp [m0, n0, e0, p0, m1, n1, e1, p1, m2, n2, e2, p2, Memory.mkT]; exact ⟨rfl, rfl⟩) (by simp [m0, n0, e0, p0, m1, n1, e1, p1, m2, n2, e2, p2, Memory.mkT]; rfl) (by exact markJobS_spec0 _) (by simp) (by simp [m0, n0, e0, p0, m1, n1, e1, p1, m2, n2, e2, p2, Memory.mkT]; rfl)) ?_
    refine RegO.opN 1 (by simp [m0, n0, e0, p0, m1, n1, e1, p1, m2, n2, e2, p2, Memory.mkT]; rfl) ?_
    refine RegO.nil ?_
    first
      | refine DW.norm [(1, _), (2, _)] [(0, _), (2, _)] [(5, _), (6, _), (7, _)] (by simp [m0, n0, e0, p0, m1, n1, e1, p1, m2, n2, e2, p2, Memory.mkT]; exact ⟨rfl, rfl⟩) (by simp [m0, n0, e0, p0, m1, n1, e1, p1, m2, n2, e2, p2, Memory.mkT]; exact ⟨rfl, rfl⟩) (by simp [m0, n0, e0, p0, m1, n1, e1, p1, m2, n2, e2, p2, Memory.mkT]; exact ⟨rfl, rfl, rfl⟩) (by rfl) ?_
      | refine DW.norm [(1, _), (2, _)] [(2, _)] [] (by simp [m0, n0, e0, p0, m1, n1, e1, p1, m2, n2, e2, p2, Memory.mkT]; exact ⟨rfl, rfl⟩) (by simp [m0, n0, e0, p0, m1, n1, e1, p1, m2, n2, e2, p2, Memory.mkT]; rfl) (by simp [m0, n0, e0, p0, m1, n1, e1, p1, m2, n2, e2, p2, Memory.mkT]) (by rfl) ?_
    refine DW.seq ?_
    refine DW.regs ?_
    refine RegO.opN 3 (by simp [m0, n0, e0, p0, m1, n1, e1, p1, m2, n2, e2, p2, Memory.mkT]; rfl) ?_
    first
      | (refine RegO.step rfl (OpStep.callL (io := 0) rfl (by simp [m0, n0, e0, p0, m1, n1, e1, p1, m2, n2, e2, p2, Memory.mkT]; rfl) (markSealingS_spec _ _ u2.1 u2.2.1 u2.2.2) (by rfl) (by rfl) (by rfl) (by rfl) (by simp [lendL, FS.lend, m0, n0, e0, p0, m1, n1, e1, p1, m2, n2, e2, p2, Memory.mkT]; exact ⟨rfl, rfl⟩) (by simp [apartP]) (by simp) (by simp [m0, n0, e0, p0, m1, n1, e1, p1, m2, n2, e2, p2, Memory.mkT]; rfl) (by simp [rosOk]) (by simp) (by simp [backFS, hBack, pzsC, pzS, paCells, PC.tree, m0, n0, e0, p0, m1, n1, e1, p1, m2, n2, e2, p2, Memory.mkT]; rfl)) ?_)
      | refine RegO.step rfl (OpStep.callA rfl (by simp [m0, n0, e0, p0, m1, n1, e1, p1, m2, n2, e2, p2, Memory.mkT]; exact ⟨rfl, rfl⟩) (by simp [m0, n0, e0, p0, m1, n1, e1, p1, m2, n2, e2, p2, Memory.mkT]; rfl) (by exact markSealingS_spec0 _) (by simp) (by simp [m0, n0, e0, p0, m1, n1, e1, p1, m2, n2, e2, p2, Memory.mkT]; rfl)) ?_
    refine RegO.opN 1 (by simp [m0, n0, e0, p0, m1, n1, e1, p1, m2, n2, e2, p2, Memory.mkT]; rfl) ?_
    refine RegO.nil ?_
    first
      | refine DW.norm [(1, _), (2, _)] [(0, _), (2, _)] [(5, _), (6, _), (7, _)] (by simp [m0, n0, e0, p0, m1, n1, e1, p1, m2, n2, e2, p2, Memory.mkT]; exact ⟨rfl, rfl⟩) (by simp [m0, n0, e0, p0, m1, n1, e1, p1, m2, n2, e2, p2, Memory.mkT]; exact ⟨rfl, rfl⟩) (by simp [m0, n0, e0, p0, m1, n1, e1, p1, m2, n2, e2, p2, Memory.mkT]; exact ⟨rfl, rfl, rfl⟩) (by rfl) ?_
      | refine DW.norm [(1, _), (2, _)] [(2, _)] [] (by simp [m0, n0, e0, p0, m1, n1, e1, p1, m2, n2, e2, p2, Memory.mkT]; exact ⟨rfl, rfl⟩) (by simp [m0, n0, e0, p0, m1, n1, e1, p1, m2, n2, e2, p2, Memory.mkT]; rfl) (by simp [m0, n0, e0, p0, m1, n1, e1, p1, m2, n2, e2, p2, Memory.mkT]) (by rfl) ?_
    refine DW.seq ?_
    refine DW.reg (by simp [m0, n0, e0, p0, m1, n1, e1, p1, m2, n2, e2, p2, Memory.mkT]; rfl) ?_
    try (refine DW.ghost ((Ghost.move (id := 2) (id' := 1005) (p := [5]) (by simp; rfl) (by simp [m0, n0, e0, p0, m1, n1, e1, p1, m2, n2, e2, p2, Memory.mkT]; first | exact ⟨rfl, rfl, rfl⟩ | rfl) (by simp)).trans (Ghost.plant 1005 0 5 (by simp [m0, n0, e0, p0, m1, n1, e1, p1, m2, n2, e2, p2, Memory.mkT]; first | exact ⟨rfl, rfl, rfl⟩ | rfl) (by simp; rfl) (by simp))) ?_)
    try (refine DW.ghost ((Ghost.move (id := 2) (id' := 1006) (p := [6]) (by simp; rfl) (by simp [m0, n0, e0, p0, m1, n1, e1, p1, m2, n2, e2, p2, Memory.mkT]; first | exact ⟨rfl, rfl, rfl⟩ | rfl) (by simp)).trans (Ghost.plant 1006 0 6 (by simp [m0, n0, e0, p0, m1, n1, e1, p1, m2, n2, e2, p2, Memory.mkT]; first | exact ⟨rfl, rfl, rfl⟩ | rfl) (by simp; rfl) (by simp))) ?_)
    try (refine DW.ghost ((Ghost.move (id := 2) (id' := 1007) (p := [7]) (by simp; rfl) (by simp [m0, n0, e0, p0, m1, n1, e1, p1, m2, n2, e2, p2, Memory.mkT]; first | exact ⟨rfl, rfl, rfl⟩ | rfl) (by simp)).trans (Ghost.plant 1007 0 7 (by simp [m0, n0, e0, p0, m1, n1, e1, p1, m2, n2, e2, p2, Memory.mkT]; first | exact ⟨rfl, rfl, rfl⟩ | rfl) (by simp; rfl) (by simp))) ?_)
    refine DW.ret ?_
    simp [Tryd.results69, hTT, System.mkT, Memory.mkT, Memory.ctT, m0, n0, e0, p0, m1, n1, e1, p1, m2, n2, e2, p2, Memory.mkT, Int.add_assoc]
theorem markItemS_spec (l : List Item) (k : Int) (h0 : 0 < k) (h1 : k + (ctL l : Int) ≤ 1152921504606846976) (h : szL l ≤ 2 ^ 36) : Spec Tryd.prog 112 [.one (.m 3 l.length (rD l)), ri k] [none] [di (k + (ctL l : Int))] [.one (.m 3 l.length (rD (mkL l k))), ri k] := by
  refine Spec.intro Tryd.func112 rfl rfl Tryd.ntmps112 rfl (by simp) ?_
  have hll := szL_len l
  refine DW.seq ?_
  refine DW.reg (by simp; rfl) ?_
  refine DW.seq ?_
  refine DW.seq ?_
  refine DW.reg (by simp; rfl) ?_
  refine DW.block ?_
  refine DW.loopS (α := Nat × Int) (fun p => p.1 ≤ l.length ∧ p.2 = k + (ctL (l.take p.1) : Int)) (fun p => l.length - p.1) (fun p => [(5, vi p.1), (1, vi p.2)]) (fun p => [(0, .hold [.ow () 3 l.length (rD (mkL (l.take p.1) k) ++ rD (l.drop p.1))])]) [(0, _)] [] [(0, .sl 0 [0] 0 l.length)] (0, k) (⟨Nat.zero_le _, by simp⟩) (by simp; exact rfl) (by simp) (by simp) (by rfl) ?_
  rintro ⟨i, K⟩ ⟨hi, hK⟩
  simp only at hi hK ⊢
  refine DW.seq ?_
  refine DW.seq ?_
  refine DW.reg (by simp; rfl) ?_
  refine DW.condB (by simp; exact rfl) (fun hc0 => ?_) (fun hc0 => ?_)
  · have hlt : i < l.length := by simpa using hc0
    have hd := rD_dropc l i hlt
    have hs := szL_at l i hlt
    have hct := ctL_take l i hlt
    have hca := ctL_at l i hlt
    have hm := mkL_take l i k hlt
    replace hm := congrArg rD hm
    rw [rD_append, ← hK] at hm
    have hlt' : (i : Int) < l.length := by omega
    have w1 : IntKind.i64.wrap ((i : Int) + 1) = ((i + 1 : Nat) : Int) := (wr _ (by omega) (by omega)).trans (by omega)
    have hA : (rD (mkL (l.take i) k)).length = i * 3 := by rw [rD_len_Item, mkL_len, List.length_take, Nat.min_eq_left (by omega)]
    generalize l[i] = c at hd hs hct hca hm
    have hcc := Item_ct c
    have hcs := Item_sz c
    rw [Item_mk] at hm
    replace hm : rD (mkL (l.take (i + 1)) k) = rD (mkL (l.take i) k) ++ Item.d _ := hm.trans (by simp only [rD, List.flatMap_cons, List.flatMap_nil, List.append_nil]; rfl)
    replace hd : rD (l.drop i) = Item.d c ++ rD (l.drop (i + 1)) := hd
    have t0 : 0 < K ∧ K < 4611686018427387904 := ⟨by omega, by omega⟩
    have t1 : 0 < K + 1 ∧ K + 1 < 4611686018427387904 := ⟨by omega, by omega⟩
    have t2 : 0 < K + 2 ∧ K + 2 < 4611686018427387904 := ⟨by omega, by omega⟩
    obtain ⟨v1, v2, v3⟩ : IntKind.i64.wrap (K + 1) = K + 1 ∧ IntKind.i64.wrap (K + 1 + 1) = K + 2 ∧ IntKind.i64.wrap (K + 2 + 1) = K + 3 := ⟨(wr _ (by omega) (by omega)).trans (by omega), (wr _ (by omega) (by omega)).trans (by omega), (wr _ (by omega) (by omega)).trans (by omega)⟩
    refine DW.skip ?_
    refine DW.seq ?_
    refine DW.block ?_
    refine DW.seq ?_
    refine DW.regs ?_
    refine RegO.opN 3 (by simp [hd, hlt', app_get hA, app_get0 hA, app_set hA, app_set0 hA, Nat.add_assoc]; rfl) ?_
    refine RegO.step rfl (OpStep.callA rfl (by simp [hd, hlt', app_get hA, app_get0 hA, app_set hA, app_set0 hA, Nat.add_assoc]; exact ⟨rfl, rfl⟩) (by simp [hd, hlt', app_get hA, app_get0 hA, app_set hA, app_set0 hA, Nat.add_assoc]; rfl) (by exact markText_spec _ t0.1 t0.2) (by simp) (by simp [hd, hlt', app_get hA, app_get0 hA, app_set hA, app_set0 hA, Nat.add_assoc]; rfl)) ?_
    refine RegO.opN 3 (by simp [hd, hlt', app_get hA, app_get0 hA, app_set hA, app_set0 hA, Nat.add_assoc]; rfl) ?_
    refine RegO.nil ?_
    refine DW.seq ?_
    refine DW.reg (by simp [v1]; rfl) ?_
    refine DW.seq ?_
    refine DW.reg (by simp [hd, hlt', app_get hA, app_get0 hA, app_set hA, app_set0 hA, Nat.add_assoc]; rfl) ?_
    refine DW.seq ?_
    refine DW.reg (by simp [v2]; rfl) ?_
    refine DW.seq ?_
    refine DW.regs ?_
    refine RegO.opN 3 (by simp [hd, hlt', app_get hA, app_get0 hA, app_set hA, app_set0 hA, Nat.add_assoc]; rfl) ?_
    refine RegO.step rfl (OpStep.callA rfl (by simp [hd, hlt', app_get hA, app_get0 hA, app_set hA, app_set0 hA, Nat.add_assoc]; exact ⟨rfl, rfl⟩) (by simp [hd, hlt', app_get hA, app_get0 hA, app_set hA, app_set0 hA, Nat.add_assoc]; rfl) (by exact markText_spec _ t2.1 t2.2) (by simp) (by simp [hd, hlt', app_get hA, app_get0 hA, app_set hA, app_set0 hA, Nat.add_assoc]; rfl)) ?_
    refine RegO.opN 3 (by simp [hd, hlt', app_get hA, app_get0 hA, app_set hA, app_set0 hA, Nat.add_assoc]; rfl) ?_
    refine RegO.nil ?_
    refine DW.reg (by simp [v3]; rfl) ?_
    refine DW.reg (by simp [w1]; rfl) ?_
    clear v1 v2 v3
    exact ⟨(i + 1, K + 3), ⟨hlt, by simp only; omega⟩, by simp only; omega, by simp, by simp [hm, mb], by simp, by rfl⟩
  · have hil : i = l.length := by
      have : ¬ i < l.length := by simpa using hc0
      omega
    subst hil
    rw [List.take_length] at hK
    refine DW.exit ?_
    refine DW.seq ?_
    refine DW.reg (by simp; rfl) ?_
    refine DW.ret ?_
    simp [Tryd.results112, hK]
theorem markItemS_spec0 (k : Int) : Spec Tryd.prog 112 [.one (.r (.sl 0 [])), ri k] [none] [di k] [.one (.r (.sl 0 [])), ri k] := by
  refine Spec.intro Tryd.func112 rfl rfl Tryd.ntmps112 rfl (by simp) ?_
  refine DW.seq ?_
  refine DW.reg (by simp; rfl) ?_
  refine DW.seq ?_
  refine DW.seq ?_
  refine DW.reg (by simp; rfl) ?_
  refine DW.block ?_
  refine DW.loopS (α := Nat) (fun p => True) (fun p => p) (fun p => [(5, vi 0), (1, vi k)]) (fun p => []) [(0, _)] [] [] 0 (trivial) (by simp; exact rfl) (by simp) (by simp) (by rfl) ?_
  rintro p -
  refine DW.seq ?_
  refine DW.seq ?_
  refine DW.reg (by simp; rfl) ?_
  refine DW.condF (by simp) ?_
  refine DW.exit ?_
  refine DW.seq ?_
  refine DW.reg (by simp; rfl) ?_
  refine DW.ret ?_
  simp [Tryd.results112]
theorem markViewS_spec (l : List View) (k : Int) (h0 : 0 < k) (h1 : k + (ctL l : Int) ≤ 1152921504606846976) (h : szL l ≤ 2 ^ 36) : Spec Tryd.prog 70 [.one (.m 1 l.length (rD l)), ri k] [none] [di (k + (ctL l : Int))] [.one (.m 1 l.length (rD (mkL l k))), ri k] := by
  refine Spec.intro Tryd.func70 rfl rfl Tryd.ntmps70 rfl (by simp) ?_
  have hll := szL_len l
  refine DW.seq ?_
  refine DW.reg (by simp; rfl) ?_
  refine DW.seq ?_
  refine DW.seq ?_
  refine DW.reg (by simp; rfl) ?_
  refine DW.block ?_
  refine DW.loopS (α := Nat × Int) (fun p => p.1 ≤ l.length ∧ p.2 = k + (ctL (l.take p.1) : Int)) (fun p => l.length - p.1) (fun p => [(5, vi p.1), (1, vi p.2)]) (fun p => [(0, .hold [.ow () 1 l.length (rD (mkL (l.take p.1) k) ++ rD (l.drop p.1))])]) [(0, _)] [] [(0, .sl 0 [0] 0 l.length)] (0, k) (⟨Nat.zero_le _, by simp⟩) (by simp; exact rfl) (by simp) (by simp) (by rfl) ?_
  rintro ⟨i, K⟩ ⟨hi, hK⟩
  simp only at hi hK ⊢
  refine DW.seq ?_
  refine DW.seq ?_
  refine DW.reg (by simp; rfl) ?_
  refine DW.condB (by simp; exact rfl) (fun hc0 => ?_) (fun hc0 => ?_)
  · have hlt : i < l.length := by simpa using hc0
    have hd := rD_dropc l i hlt
    have hs := szL_at l i hlt
    have hct := ctL_take l i hlt
    have hca := ctL_at l i hlt
    have hm := mkL_take l i k hlt
    replace hm := congrArg rD hm
    rw [rD_append, ← hK] at hm
    have hlt' : (i : Int) < l.length := by omega
    have w1 : IntKind.i64.wrap ((i : Int) + 1) = ((i + 1 : Nat) : Int) := (wr _ (by omega) (by omega)).trans (by omega)
    have hA : (rD (mkL (l.take i) k)).length = i := by rw [rD_len_View, mkL_len, List.length_take, Nat.min_eq_left (by omega)]; omega
    generalize l[i] = c at hd hs hct hca hm
    have hcc := View_ct c
    have hcs := View_sz c
    rw [View_mk] at hm
    replace hm : rD (mkL (l.take (i + 1)) k) = rD (mkL (l.take i) k) ++ View.d _ := hm.trans (by simp only [rD, List.flatMap_cons, List.flatMap_nil, List.append_nil]; rfl)
    replace hd : rD (l.drop i) = View.d c ++ rD (l.drop (i + 1)) := hd
    have u1 : 0 < K ∧ K + (ctL c.Items : Int) ≤ 1152921504606846976 ∧ szL c.Items ≤ 2 ^ 36 ∧ ¬ (K + (ctL c.Items : Int) < 0) := ⟨by omega, by omega, by omega, by omega⟩
    refine DW.skip ?_
    refine DW.seq ?_
    refine DW.block ?_
    refine DW.regs ?_
    refine RegO.opN 6 (by simp [hd, hlt', app_get hA, app_get0 hA, app_set hA, app_set0 hA, Nat.add_assoc]; rfl) ?_
    refine RegO.step rfl (OpStep.callL (io := 0) rfl (by simp [hd, hlt', app_get hA, app_get0 hA, app_set hA, app_set0 hA, Nat.add_assoc]; rfl) (markItemS_spec c.Items (K) u1.1 u1.2.1 u1.2.2.1) (by rfl) (by rfl) (by rfl) (by rfl) (by simp [lendL, FS.lend, hd, hlt', app_get hA, app_get0 hA, app_set hA, app_set0 hA, Nat.add_assoc]; exact ⟨rfl, rfl⟩) (by simp [apartP]) (by simp) (by simp [hd, hlt', app_get hA, app_get0 hA, app_set hA, app_set0 hA, Nat.add_assoc]; rfl) (by simp [rosOk]) (by simp) (by simp [backFS, hBack, pzsC, pzS, paCells, PC.tree, hd, hlt', app_get hA, app_get0 hA, app_set hA, app_set0 hA, Nat.add_assoc]; rfl)) ?_
    refine RegO.opN 1 (by simp [hd, hlt', app_get hA, app_get0 hA, app_set hA, app_set0 hA, Nat.add_assoc]; rfl) ?_
    refine RegO.nil ?_
    refine DW.reg (by simp [w1]; rfl) ?_
    exact ⟨(i + 1, K + (ctL c.Items : Int)), ⟨hlt, by simp only; omega⟩, by simp only; omega, by simp, by simp [hm, mb], by simp, by rfl⟩
  · have hil : i = l.length := by
      have : ¬ i < l.length := by simpa using hc0
      omega
    subst hil
    rw [List.take_length] at hK
    refine DW.exit ?_
    refine DW.seq ?_
    refine DW.reg (by simp; rfl) ?_
    refine DW.ret ?_
    simp [Tryd.results70, hK]
theorem markViewS_spec0 (k : Int) : Spec Tryd.prog 70 [.one (.r (.sl 0 [])), ri k] [none] [di k] [.one (.r (.sl 0 [])), ri k] := by
  refine Spec.intro Tryd.func70 rfl rfl Tryd.ntmps70 rfl (by simp) ?_
  refine DW.seq ?_
  refine DW.reg (by simp; rfl) ?_
  refine DW.seq ?_
  refine DW.seq ?_
  refine DW.reg (by simp; rfl) ?_
  refine DW.block ?_
  refine DW.loopS (α := Nat) (fun p => True) (fun p => p) (fun p => [(5, vi 0), (1, vi k)]) (fun p => []) [(0, _)] [] [] 0 (trivial) (by simp; exact rfl) (by simp) (by simp) (by rfl) ?_
  rintro p -
  refine DW.seq ?_
  refine DW.seq ?_
  refine DW.reg (by simp; rfl) ?_
  refine DW.condF (by simp) ?_
  refine DW.exit ?_
  refine DW.seq ?_
  refine DW.reg (by simp; rfl) ?_
  refine DW.ret ?_
  simp [Tryd.results70]
theorem markWorld_spec (a : World) (k : Int) (h0 : 0 < k) (h1 : k + (World.ctT a : Int) ≤ 1152921504606846976) (h : Row.sz a ≤ 2 ^ 36) : Spec Tryd.prog 29 [maWorld a, ri k] [none] [di (k + (World.ctT a : Int))] [maWorld (World.mkT a k), ri k] := by
  refine Spec.intro Tryd.func29 rfl rfl Tryd.ntmps29 rfl (by simp) ?_
  have hz := World_sz a
  have hT : World.ctT a = System.ctT a.System + ctL a.Views + ctL a.Hoped := by simp only [World.mkT, World.ctT, System.mkT, System.ctT] <;> omega
  have hzSystem := System_sz a.System
  have u0 : 0 < k ∧ k + (System.ctT a.System : Int) ≤ 1152921504606846976 ∧ Row.sz a.System ≤ 2 ^ 36 := ⟨by omega, by omega, by omega⟩
  have u1 : 0 < k + (System.ctT a.System : Int) ∧ k + (System.ctT a.System : Int) + (ctL a.Views : Int) ≤ 1152921504606846976 ∧ szL a.Views ≤ 2 ^ 36 := ⟨by omega, by omega, by omega⟩
  have u2 : 0 < k + (System.ctT a.System : Int) + (ctL a.Views : Int) ∧ k + (System.ctT a.System : Int) + (ctL a.Views : Int) + (ctL a.Hoped : Int) ≤ 1152921504606846976 ∧ szL a.Hoped ≤ 2 ^ 36 := ⟨by omega, by omega, by omega⟩
  have hTT : k + (World.ctT a : Int) = k + (System.ctT a.System : Int) + (ctL a.Views : Int) + (ctL a.Hoped : Int) := by omega
  obtain ⟨⟨⟨a_System_Geo_Tenants, a_System_Geo_Pages, a_System_Geo_Inodes, a_System_Geo_Quota⟩, ⟨a_System_Memory_Kept, a_System_Memory_Cells⟩, a_System_Jobs, a_System_Seals⟩, a_Views, a_Hoped, a_Falls⟩ := a
  simp only at *
  rcases nil_or_pos' a_System_Memory_Cells with ⟨m0, n0, e0, p0, rfl⟩ | ⟨m0, n0, e0, p0, -⟩ <;> rcases nil_or_pos' a_System_Jobs with ⟨m1, n1, e1, p1, rfl⟩ | ⟨m1, n1, e1, p1, -⟩ <;> rcases nil_or_pos' a_System_Seals with ⟨m2, n2, e2, p2, rfl⟩ | ⟨m2, n2, e2, p2, -⟩ <;> rcases nil_or_pos' a_Views with ⟨m3, n3, e3, p3, rfl⟩ | ⟨m3, n3, e3, p3, -⟩ <;> rcases nil_or_pos' a_Hoped with ⟨m4, n4, e4, p4, rfl⟩ | ⟨m4, n4, e4, p4, -⟩
  all_goals
    refine DW.ghost (Ghost.empty 0) ?_
    refine DW.seq ?_
    refine DW.regs ?_
    refine RegO.step rfl (OpStep.boxR rfl rfl (by decide) (by simp [m0, n0, e0, p0, m1, n1, e1, p1, m2, n2, e2, p2, m3, n3, e3, p3, m4, n4, e4, p4, System.mkT]; rfl) (by simp [m0, n0, e0, p0, m1, n1, e1, p1, m2, n2, e2, p2, m3, n3, e3, p3, m4, n4, e4, p4, System.mkT]; first | exact ⟨rfl, rfl⟩ | rfl) (by simp) (by simp)) ?_
    refine RegO.opN 1 (by simp; rfl) ?_
    refine RegO.nil ?_
    first
      | refine DW.norm [(1, _), (2, _)] [(0, _), (2, _)] [(5, _), (6, _), (7, _), (8, _), (9, _)] (by simp [m0, n0, e0, p0, m1, n1, e1, p1, m2, n2, e2, p2, m3, n3, e3, p3, m4, n4, e4, p4, System.mkT]; exact ⟨rfl, rfl⟩) (by simp [m0, n0, e0, p0, m1, n1, e1, p1, m2, n2, e2, p2, m3, n3, e3, p3, m4, n4, e4, p4, System.mkT]; exact ⟨rfl, rfl⟩) (by simp [m0, n0, e0, p0, m1, n1, e1, p1, m2, n2, e2, p2, m3, n3, e3, p3, m4, n4, e4, p4, System.mkT]; exact ⟨rfl, rfl, rfl, rfl, rfl⟩) (by rfl) ?_
      | refine DW.norm [(1, _), (2, _)] [(2, _)] [] (by simp [m0, n0, e0, p0, m1, n1, e1, p1, m2, n2, e2, p2, m3, n3, e3, p3, m4, n4, e4, p4, System.mkT]; exact ⟨rfl, rfl⟩) (by simp [m0, n0, e0, p0, m1, n1, e1, p1, m2, n2, e2, p2, m3, n3, e3, p3, m4, n4, e4, p4, System.mkT]; rfl) (by simp [m0, n0, e0, p0, m1, n1, e1, p1, m2, n2, e2, p2, m3, n3, e3, p3, m4, n4, e4, p4, System.mkT]) (by rfl) ?_
    refine DW.seq ?_
    refine DW.regs ?_
    refine RegO.opN 3 (by simp [m0, n0, e0, p0, m1, n1, e1, p1, m2, n2, e2, p2, m3, n3, e3, p3, m4, n4, e4, p4, System.mkT]; rfl) ?_
    refine RegO.step rfl (OpStep.callL (io := 0) rfl (by simp [m0, n0, e0, p0, m1, n1, e1, p1, m2, n2, e2, p2, m3, n3, e3, p3, m4, n4, e4, p4, System.mkT]; rfl) (markSystem_spec _ _ u0.1 u0.2.1 u0.2.2) (by rfl) (by rfl) (by rfl) (by rfl) (by simp [lendL, FS.lend, m0, n0, e0, p0, m1, n1, e1, p1, m2, n2, e2, p2, m3, n3, e3, p3, m4, n4, e4, p4, System.mkT]; exact ⟨rfl, rfl⟩) (by simp [apartP]) (by simp) (by simp [m0, n0, e0, p0, m1, n1, e1, p1, m2, n2, e2, p2, m3, n3, e3, p3, m4, n4, e4, p4, System.mkT]; rfl) (by simp [rosOk]) (by simp) (by simp [backFS, hBack, pzsC, pzS, paCells, PC.tree, m0, n0, e0, p0, m1, n1, e1, p1, m2, n2, e2, p2, m3, n3, e3, p3, m4, n4, e4, p4, System.mkT]; rfl)) ?_
    refine RegO.opN 1 (by simp [m0, n0, e0, p0, m1, n1, e1, p1, m2, n2, e2, p2, m3, n3, e3, p3, m4, n4, e4, p4, System.mkT]; rfl) ?_
    refine RegO.nil ?_
    first
      | refine DW.norm [(1, _), (2, _)] [(0, _), (2, _)] [(5, _), (6, _), (7, _), (8, _), (9, _)] (by simp [m0, n0, e0, p0, m1, n1, e1, p1, m2, n2, e2, p2, m3, n3, e3, p3, m4, n4, e4, p4, System.mkT]; exact ⟨rfl, rfl⟩) (by simp [m0, n0, e0, p0, m1, n1, e1, p1, m2, n2, e2, p2, m3, n3, e3, p3, m4, n4, e4, p4, System.mkT]; exact ⟨rfl, rfl⟩) (by simp [m0, n0, e0, p0, m1, n1, e1, p1, m2, n2, e2, p2, m3, n3, e3, p3, m4, n4, e4, p4, System.mkT]; exact ⟨rfl, rfl, rfl, rfl, rfl⟩) (by rfl) ?_
      | refine DW.norm [(1, _), (2, _)] [(2, _)] [] (by simp [m0, n0, e0, p0, m1, n1, e1, p1, m2, n2, e2, p2, m3, n3, e3, p3, m4, n4, e4, p4, System.mkT]; exact ⟨rfl, rfl⟩) (by simp [m0, n0, e0, p0, m1, n1, e1, p1, m2, n2, e2, p2, m3, n3, e3, p3, m4, n4, e4, p4, System.mkT]; rfl) (by simp [m0, n0, e0, p0, m1, n1, e1, p1, m2, n2, e2, p2, m3, n3, e3, p3, m4, n4, e4, p4, System.mkT]) (by rfl) ?_
    refine DW.seq ?_
    refine DW.regs ?_
    refine RegO.opN 3 (by simp [m0, n0, e0, p0, m1, n1, e1, p1, m2, n2, e2, p2, m3, n3, e3, p3, m4, n4, e4, p4, System.mkT]; rfl) ?_
    first
      | (refine RegO.step rfl (OpStep.callL (io := 0) rfl (by simp [m0, n0, e0, p0, m1, n1, e1, p1, m2, n2, e2, p2, m3, n3, e3, p3, m4, n4, e4, p4, System.mkT]; rfl) (markViewS_spec _ _ u1.1 u1.2.1 u1.2.2) (by rfl) (by rfl) (by rfl) (by rfl) (by simp [lendL, FS.lend, m0, n0, e0, p0, m1, n1, e1, p1, m2, n2, e2, p2, m3, n3, e3, p3, m4, n4, e4, p4, System.mkT]; exact ⟨rfl, rfl⟩) (by simp [apartP]) (by simp) (by simp [m0, n0, e0, p0, m1, n1, e1, p1, m2, n2, e2, p2, m3, n3, e3, p3, m4, n4, e4, p4, System.mkT]; rfl) (by simp [rosOk]) (by simp) (by simp [backFS, hBack, pzsC, pzS, paCells, PC.tree, m0, n0, e0, p0, m1, n1, e1, p1, m2, n2, e2, p2, m3, n3, e3, p3, m4, n4, e4, p4, System.mkT]; rfl)) ?_)
      | refine RegO.step rfl (OpStep.callA rfl (by simp [m0, n0, e0, p0, m1, n1, e1, p1, m2, n2, e2, p2, m3, n3, e3, p3, m4, n4, e4, p4, System.mkT]; exact ⟨rfl, rfl⟩) (by simp [m0, n0, e0, p0, m1, n1, e1, p1, m2, n2, e2, p2, m3, n3, e3, p3, m4, n4, e4, p4, System.mkT]; rfl) (by exact markViewS_spec0 _) (by simp) (by simp [m0, n0, e0, p0, m1, n1, e1, p1, m2, n2, e2, p2, m3, n3, e3, p3, m4, n4, e4, p4, System.mkT]; rfl)) ?_
    refine RegO.opN 1 (by simp [m0, n0, e0, p0, m1, n1, e1, p1, m2, n2, e2, p2, m3, n3, e3, p3, m4, n4, e4, p4, System.mkT]; rfl) ?_
    refine RegO.nil ?_
    first
      | refine DW.norm [(1, _), (2, _)] [(0, _), (2, _)] [(5, _), (6, _), (7, _), (8, _), (9, _)] (by simp [m0, n0, e0, p0, m1, n1, e1, p1, m2, n2, e2, p2, m3, n3, e3, p3, m4, n4, e4, p4, System.mkT]; exact ⟨rfl, rfl⟩) (by simp [m0, n0, e0, p0, m1, n1, e1, p1, m2, n2, e2, p2, m3, n3, e3, p3, m4, n4, e4, p4, System.mkT]; exact ⟨rfl, rfl⟩) (by simp [m0, n0, e0, p0, m1, n1, e1, p1, m2, n2, e2, p2, m3, n3, e3, p3, m4, n4, e4, p4, System.mkT]; exact ⟨rfl, rfl, rfl, rfl, rfl⟩) (by rfl) ?_
      | refine DW.norm [(1, _), (2, _)] [(2, _)] [] (by simp [m0, n0, e0, p0, m1, n1, e1, p1, m2, n2, e2, p2, m3, n3, e3, p3, m4, n4, e4, p4, System.mkT]; exact ⟨rfl, rfl⟩) (by simp [m0, n0, e0, p0, m1, n1, e1, p1, m2, n2, e2, p2, m3, n3, e3, p3, m4, n4, e4, p4, System.mkT]; rfl) (by simp [m0, n0, e0, p0, m1, n1, e1, p1, m2, n2, e2, p2, m3, n3, e3, p3, m4, n4, e4, p4, System.mkT]) (by rfl) ?_
    refine DW.seq ?_
    refine DW.regs ?_
    refine RegO.opN 3 (by simp [m0, n0, e0, p0, m1, n1, e1, p1, m2, n2, e2, p2, m3, n3, e3, p3, m4, n4, e4, p4, System.mkT]; rfl) ?_
    first
      | (refine RegO.step rfl (OpStep.callL (io := 0) rfl (by simp [m0, n0, e0, p0, m1, n1, e1, p1, m2, n2, e2, p2, m3, n3, e3, p3, m4, n4, e4, p4, System.mkT]; rfl) (markViewS_spec _ _ u2.1 u2.2.1 u2.2.2) (by rfl) (by rfl) (by rfl) (by rfl) (by simp [lendL, FS.lend, m0, n0, e0, p0, m1, n1, e1, p1, m2, n2, e2, p2, m3, n3, e3, p3, m4, n4, e4, p4, System.mkT]; exact ⟨rfl, rfl⟩) (by simp [apartP]) (by simp) (by simp [m0, n0, e0, p0, m1, n1, e1, p1, m2, n2, e2, p2, m3, n3, e3, p3, m4, n4, e4, p4, System.mkT]; rfl) (by simp [rosOk]) (by simp) (by simp [backFS, hBack, pzsC, pzS, paCells, PC.tree, m0, n0, e0, p0, m1, n1, e1, p1, m2, n2, e2, p2, m3, n3, e3, p3, m4, n4, e4, p4, System.mkT]; rfl)) ?_)
      | refine RegO.step rfl (OpStep.callA rfl (by simp [m0, n0, e0, p0, m1, n1, e1, p1, m2, n2, e2, p2, m3, n3, e3, p3, m4, n4, e4, p4, System.mkT]; exact ⟨rfl, rfl⟩) (by simp [m0, n0, e0, p0, m1, n1, e1, p1, m2, n2, e2, p2, m3, n3, e3, p3, m4, n4, e4, p4, System.mkT]; rfl) (by exact markViewS_spec0 _) (by simp) (by simp [m0, n0, e0, p0, m1, n1, e1, p1, m2, n2, e2, p2, m3, n3, e3, p3, m4, n4, e4, p4, System.mkT]; rfl)) ?_
    refine RegO.opN 1 (by simp [m0, n0, e0, p0, m1, n1, e1, p1, m2, n2, e2, p2, m3, n3, e3, p3, m4, n4, e4, p4, System.mkT]; rfl) ?_
    refine RegO.nil ?_
    first
      | refine DW.norm [(1, _), (2, _)] [(0, _), (2, _)] [(5, _), (6, _), (7, _), (8, _), (9, _)] (by simp [m0, n0, e0, p0, m1, n1, e1, p1, m2, n2, e2, p2, m3, n3, e3, p3, m4, n4, e4, p4, System.mkT]; exact ⟨rfl, rfl⟩) (by simp [m0, n0, e0, p0, m1, n1, e1, p1, m2, n2, e2, p2, m3, n3, e3, p3, m4, n4, e4, p4, System.mkT]; exact ⟨rfl, rfl⟩) (by simp [m0, n0, e0, p0, m1, n1, e1, p1, m2, n2, e2, p2, m3, n3, e3, p3, m4, n4, e4, p4, System.mkT]; exact ⟨rfl, rfl, rfl, rfl, rfl⟩) (by rfl) ?_
      | refine DW.norm [(1, _), (2, _)] [(2, _)] [] (by simp [m0, n0, e0, p0, m1, n1, e1, p1, m2, n2, e2, p2, m3, n3, e3, p3, m4, n4, e4, p4, System.mkT]; exact ⟨rfl, rfl⟩) (by simp [m0, n0, e0, p0, m1, n1, e1, p1, m2, n2, e2, p2, m3, n3, e3, p3, m4, n4, e4, p4, System.mkT]; rfl) (by simp [m0, n0, e0, p0, m1, n1, e1, p1, m2, n2, e2, p2, m3, n3, e3, p3, m4, n4, e4, p4, System.mkT]) (by rfl) ?_
    refine DW.seq ?_
    refine DW.reg (by simp [m0, n0, e0, p0, m1, n1, e1, p1, m2, n2, e2, p2, m3, n3, e3, p3, m4, n4, e4, p4, System.mkT]; rfl) ?_
    try (refine DW.ghost ((Ghost.move (id := 2) (id' := 1005) (p := [5]) (by simp; rfl) (by simp [m0, n0, e0, p0, m1, n1, e1, p1, m2, n2, e2, p2, m3, n3, e3, p3, m4, n4, e4, p4, System.mkT]; first | exact ⟨rfl, rfl, rfl⟩ | rfl) (by simp)).trans (Ghost.plant 1005 0 5 (by simp [m0, n0, e0, p0, m1, n1, e1, p1, m2, n2, e2, p2, m3, n3, e3, p3, m4, n4, e4, p4, System.mkT]; first | exact ⟨rfl, rfl, rfl⟩ | rfl) (by simp; rfl) (by simp))) ?_)
    try (refine DW.ghost ((Ghost.move (id := 2) (id' := 1006) (p := [6]) (by simp; rfl) (by simp [m0, n0, e0, p0, m1, n1, e1, p1, m2, n2, e2, p2, m3, n3, e3, p3, m4, n4, e4, p4, System.mkT]; first | exact ⟨rfl, rfl, rfl⟩ | rfl) (by simp)).trans (Ghost.plant 1006 0 6 (by simp [m0, n0, e0, p0, m1, n1, e1, p1, m2, n2, e2, p2, m3, n3, e3, p3, m4, n4, e4, p4, System.mkT]; first | exact ⟨rfl, rfl, rfl⟩ | rfl) (by simp; rfl) (by simp))) ?_)
    try (refine DW.ghost ((Ghost.move (id := 2) (id' := 1007) (p := [7]) (by simp; rfl) (by simp [m0, n0, e0, p0, m1, n1, e1, p1, m2, n2, e2, p2, m3, n3, e3, p3, m4, n4, e4, p4, System.mkT]; first | exact ⟨rfl, rfl, rfl⟩ | rfl) (by simp)).trans (Ghost.plant 1007 0 7 (by simp [m0, n0, e0, p0, m1, n1, e1, p1, m2, n2, e2, p2, m3, n3, e3, p3, m4, n4, e4, p4, System.mkT]; first | exact ⟨rfl, rfl, rfl⟩ | rfl) (by simp; rfl) (by simp))) ?_)
    try (refine DW.ghost ((Ghost.move (id := 2) (id' := 1008) (p := [8]) (by simp; rfl) (by simp [m0, n0, e0, p0, m1, n1, e1, p1, m2, n2, e2, p2, m3, n3, e3, p3, m4, n4, e4, p4, System.mkT]; first | exact ⟨rfl, rfl, rfl⟩ | rfl) (by simp)).trans (Ghost.plant 1008 0 8 (by simp [m0, n0, e0, p0, m1, n1, e1, p1, m2, n2, e2, p2, m3, n3, e3, p3, m4, n4, e4, p4, System.mkT]; first | exact ⟨rfl, rfl, rfl⟩ | rfl) (by simp; rfl) (by simp))) ?_)
    try (refine DW.ghost ((Ghost.move (id := 2) (id' := 1009) (p := [9]) (by simp; rfl) (by simp [m0, n0, e0, p0, m1, n1, e1, p1, m2, n2, e2, p2, m3, n3, e3, p3, m4, n4, e4, p4, System.mkT]; first | exact ⟨rfl, rfl, rfl⟩ | rfl) (by simp)).trans (Ghost.plant 1009 0 9 (by simp [m0, n0, e0, p0, m1, n1, e1, p1, m2, n2, e2, p2, m3, n3, e3, p3, m4, n4, e4, p4, System.mkT]; first | exact ⟨rfl, rfl, rfl⟩ | rfl) (by simp; rfl) (by simp))) ?_)
    refine DW.ret ?_
    simp [Tryd.results29, hTT, World.mkT, System.mkT, System.ctT, m0, n0, e0, p0, m1, n1, e1, p1, m2, n2, e2, p2, m3, n3, e3, p3, m4, n4, e4, p4, System.mkT, Int.add_assoc]
theorem heldStringS_spec (l : List ByteArray) (k : Int) (h0 : 0 < k) (h1 : k + (ctL l : Int) ≤ 1152921504606846976) (h : szL l ≤ 2 ^ 36) : Spec Tryd.prog 31 [.one (.r (.sl l.length (rR (mkL l k)))), ri k] [none] [di (k + (ctL l : Int))] [.one (.r (.sl l.length (rR (mkL l k)))), ri k] := by
  refine Spec.intro Tryd.func31 rfl rfl Tryd.ntmps31 rfl (by simp) ?_
  have hll := szL_len l
  refine DW.seq ?_
  refine DW.reg (by simp; rfl) ?_
  refine DW.seq ?_
  refine DW.seq ?_
  refine DW.reg (by simp; rfl) ?_
  refine DW.block ?_
  refine DW.loopS (α := Nat × Int) (fun p => p.1 ≤ l.length ∧ p.2 = k + (ctL (l.take p.1) : Int)) (fun p => l.length - p.1) (fun p => [(5, vi p.1), (1, vi p.2)]) (fun p => []) [(0, _)] [] [] (0, k) (⟨Nat.zero_le _, by simp⟩) (by simp; exact rfl) (by simp) (by simp) (by rfl) ?_
  rintro ⟨i, K⟩ ⟨hi, hK⟩
  simp only at hi hK ⊢
  refine DW.seq ?_
  refine DW.seq ?_
  refine DW.reg (by simp; rfl) ?_
  refine DW.condB (by simp; exact rfl) (fun hc0 => ?_) (fun hc0 => ?_)
  · have hlt : i < l.length := by simpa using hc0
    have hd := rR_get_ByteArray (mkL l k) i (by simpa using hlt)
    rw [mkL_get l k i hlt, ← hK] at hd
    have hs := szL_at l i hlt
    have hct := ctL_take l i hlt
    have hca := ctL_at l i hlt
    have hlt' : (i : Int) < l.length := by omega
    have w1 : IntKind.i64.wrap ((i : Int) + 1) = ((i + 1 : Nat) : Int) := (wr _ (by omega) (by omega)).trans (by omega)
    generalize l[i] = c at hd hs hct hca
    have hcc : Row.ct c = 1 := rfl
    replace hd : (rR (mkL l k))[i]? = some (RT.sc (.string (mt K))) := hd
    have t0 : 0 < K ∧ K < 4611686018427387904 := ⟨by omega, by omega⟩
    obtain v1 : IntKind.i64.wrap (K + 1) = K + 1 := (wr _ (by omega) (by omega)).trans (by omega)
    refine DW.skip ?_
    refine DW.seq ?_
    refine DW.block ?_
    refine DW.seq ?_
    refine DW.seq ?_
    refine DW.drawn mixed (by kernel_rfl) ?_
    refine RegD.addN 5 (by simp [hd, hlt', mb]; (first | done | exact ⟨rfl, rfl⟩ | rfl)) ?_
    refine RegD.cert (Cert.callA rfl (by simp) rfl (by decide) (by simp [hd, hlt', mb]; exact ⟨rfl, rfl⟩) (by simp [hd, hlt', mb]; rfl) (by exact markText_spec _ t0.1 t0.2) rfl (by simp) (by simp; rfl) rfl) ?_
    refine RegD.addN 1 (by simp [hd, hlt', mb]; (first | done | exact ⟨rfl, rfl⟩ | rfl)) ?_
    refine RegD.nil ⟨by kernel_rfl, ?_⟩
    refine DW.condF (by simp) ?_
    refine DW.skip ?_
    refine DW.reg (by simp [v1]; rfl) ?_
    refine DW.reg (by simp [w1]; rfl) ?_
    clear v1
    exact ⟨(i + 1, K + 1), ⟨hlt, by simp only; omega⟩, by simp only; omega, by simp, by simp, by simp, by rfl⟩
  · have hil : i = l.length := by
      have : ¬ i < l.length := by simpa using hc0
      omega
    subst hil
    rw [List.take_length] at hK
    refine DW.exit ?_
    refine DW.seq ?_
    refine DW.reg (by simp; rfl) ?_
    refine DW.ret ?_
    simp [Tryd.results31, hK]
end Go.Proofs.YtciieaidbiejmaaDoor.DM
