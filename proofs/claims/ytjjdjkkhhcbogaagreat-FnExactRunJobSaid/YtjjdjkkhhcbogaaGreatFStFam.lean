import Derived.Test.YtjjdjkkhhcbogaaGreatFData
namespace Go.Proofs.YtjjdjkkhhcbogaaGreat.DM
set_option linter.unusedVariables false
set_option linter.unusedSimpArgs false
set_option maxRecDepth 4000
set_option maxHeartbeats 8000000
theorem markText_spec (k1 : Int) (h0 : 0 < k1) (h1 : k1 < 4611686018427387904) : Spec Tryz.prog 71 [ri k1] [none] [ds (mt k1)] [ri k1] := by
  refine Spec.intro Tryz.func71 rfl rfl Tryz.ntmps71 rfl (by simp) ?_
  obtain ⟨k0, rfl⟩ := Int.eq_ofNat_of_zero_le (show 0 ≤ k1 by omega)
  have h0n : ¬ (k0 : Int) ≤ 0 := by omega
  have h0m : ¬ k0 = 0 := by omega
  refine DW.seq ?_
  refine DW.reg (by simp; rfl) ?_
  refine DW.seq ?_
  refine DW.seq ?_
  refine DW.reg (by simp [h0n, h0m]; rfl) ?_
  refine DW.condF (by simp [h0n, h0m]) ?_
  refine DW.skip ?_
  refine DW.seq ?_
  refine DW.reg (by simp; rfl) ?_
  refine DW.seq ?_
  refine DW.block ?_
  refine DW.loopS (α := Nat × ByteArray) (fun p => p.1 ≤ k0 ∧ mtB p.1 p.2 = mtB k0 ByteArray.empty ∧ p.2.size + p.1 ≤ k0) (fun p => p.1) (fun p => [(0, vi p.1), (3, vs p.2)]) (fun p => []) [] [] [] (k0, ByteArray.empty) (⟨Nat.le_refl _, rfl, by simp⟩) (by simp) (by simp) (by simp) (by rfl) ?_
  rintro ⟨k, acc⟩ ⟨hk, hm, hs⟩
  simp only at hk hm hs ⊢
  refine DW.seq ?_
  refine DW.seq ?_
  refine DW.reg (by simp; rfl) ?_
  refine DW.condB (by simp; exact rfl) (fun hc1 => ?_) (fun hc1 => ?_)
  · have hp : 0 < k := by simpa using hc1
    have wd : IntKind.i64.wrap (48 + (k : Int).tmod 10) = ((48 + k % 10 : Nat) : Int) := by
      have e : (k : Int).tmod 10 = ((k % 10 : Nat) : Int) := by rw [Int.tmod_eq_emod_of_nonneg (by omega)]; omega
      rw [e, wr _ (by omega) (by omega)]; omega
    have hu : IntKind.u8.wrap (48 + (k : Int) % 10) = ((dg k).toNat : Int) := by
      have e1 : (dg k).toNat = 48 + k % 10 := by unfold dg; simp; omega
      rw [e1]; simp [IntKind.wrap, IntKind.bits, IntKind.signed]; omega
    have hz : (⟨#[dg k]⟩ ++ acc : ByteArray).size + k / 10 ≤ k0 := by rw [ByteArray.size_append]; show 1 + acc.size + k / 10 ≤ _; omega
    have hsz : ¬ ((9223372036854775807 : Int) < ((⟨#[dg k]⟩ : ByteArray).size : Int) + acc.size) := by show ¬ ((9223372036854775807 : Int) < ((1 : Nat) : Int) + acc.size); omega
    have hq : IntKind.i64.wrap ((k : Int) / 10) = (k : Int) / 10 := wr _ (by omega) (by omega)
    refine DW.skip ?_
    refine DW.block ?_
    refine DW.seq ?_
    refine DW.regs ?_
    refine RegO.opN 5 (by simp [wd]; rfl) ?_
    refine RegO.step rfl (OpStep.bytesStr (n := 1) (l := [dg k]) rfl rfl (by decide) (by simp; rfl) (by simp) (by simp) (by simp [rowLen]) (by simp [hu]; exact ⟨rfl, rfl⟩)) ?_
    refine RegO.opN 3 (by simp [hsz]; rfl) ?_
    refine RegO.nil ?_
    refine DW.reg (by simp [hq]; rfl) ?_
    exact ⟨(k / 10, ⟨#[dg k]⟩ ++ acc), ⟨by omega, by rw [← hm]; conv => rhs; rw [mtB, dif_pos hp], hz⟩, by simp; omega, by simp [hq], by simp, by simp, by rfl⟩
  · have hk0 : k = 0 := by
      have : ¬ 0 < k := by simpa using hc1
      omega
    subst hk0
    rw [mtB, dif_neg (by omega)] at hm
    have hsz : ¬ ((9223372036854775807 : Int) < ((⟨#[109]⟩ : ByteArray).size : Int) + acc.size) := by show ¬ ((9223372036854775807 : Int) < ((1 : Nat) : Int) + acc.size); omega
    refine DW.exit ?_
    refine DW.seq ?_
    refine DW.reg (by simp [hsz]; rfl) ?_
    refine DW.ret ?_
    simp [Tryz.results71, mt, ← hm]
theorem szCell_spec (a : Cell) (left : Int) (h0 : 0 ≤ left) (h1 : left ≤ 1099511627776) (ho : Row.ok 281474976710656 a) : Spec Tryz.prog 195 [raCell a, ri left] [none] [di (szr (left - (Row.sz a : Int)))] [raCell a, ri left] := by
  refine Spec.intro Tryz.func195 rfl rfl Tryz.ntmps195 rfl (by simp) ?_
  have hz := Cell_sz a
  rw [Cell_ok] at ho
  obtain ⟨_, o0⟩ := ho
  have w0 : IntKind.i64.wrap (left - (a.Text.size : Int)) = left - (a.Text.size : Int) := wr _ (by omega) (by omega)
  refine DW.seq ?_
  refine DW.reg (by simp [w0]; rfl) ?_
  refine DW.seq ?_
  refine DW.reg (by simp [w0]; rfl) ?_
  refine DW.seq ?_
  refine DW.seq ?_
  refine DW.reg (by simp [w0]; rfl) ?_
  refine DW.condB (by simp [w0]; exact rfl) (fun hc0 => ?_) (fun hc0 => ?_)
  · have q0 : True := trivial
    have w1 : True := trivial
    have hn0 : left - (a.Text.size : Int) < 0 := by simpa using hc0
    have hr : szr (left - (Row.sz a : Int)) = -1 := szr_neg (by omega)
    refine DW.seq ?_
    refine DW.reg (by simp [q0, w0]; rfl) ?_
    refine DW.ret ?_
    simp [Tryz.results195, hr]
  · have hn0 : ¬ (left - (a.Text.size : Int) < 0) := by simpa using hc0
    have q0 : szr (left - (a.Text.size : Int)) = left - (a.Text.size : Int) := szr_pos (by omega)
    have hr : szr (left - (Row.sz a : Int)) = left - (a.Text.size : Int) := by rw [szr_pos (by omega)]; omega
    refine DW.skip ?_
    refine DW.seq ?_
    refine DW.reg (by simp [q0, w0]; rfl) ?_
    refine DW.ret ?_
    simp [Tryz.results195, hr]
theorem szCellS_spec (l : List Cell) (left : Int) (h0 : 0 ≤ left) (h1 : left ≤ 1099511627776) (ho : okL 281474976710656 l) : Spec Tryz.prog 148 [ra l, ri left] [none] [di (szr (left - (szL l : Int)))] [ra l, ri left] := by
  refine Spec.intro Tryz.func148 rfl rfl Tryz.ntmps148 rfl (by simp) ?_
  have hll := szL_len l
  have hl := ho.1
  have w0 : IntKind.i64.wrap (left - (l.length : Int)) = left - (l.length : Int) := wr _ (by omega) (by omega)
  refine DW.seq ?_
  refine DW.reg (by simp [w0]; rfl) ?_
  refine DW.seq ?_
  refine DW.reg (by simp [w0]; rfl) ?_
  refine DW.seq ?_
  refine DW.seq ?_
  refine DW.reg (by simp [w0]; rfl) ?_
  refine DW.condB (by simp [w0]; exact rfl) (fun hc0 => ?_) (fun hc0 => ?_)
  · have hn : left - (l.length : Int) < 0 := by simpa using hc0
    have hr : szr (left - (szL l : Int)) = -1 := szr_neg (by omega)
    refine DW.seq ?_
    refine DW.reg (by simp [w0]; rfl) ?_
    refine DW.ret ?_
    simp [Tryz.results148, hr]
  · have hn : ¬ (left - (l.length : Int) < 0) := by simpa using hc0
    refine DW.skip ?_
    refine DW.seq ?_
    refine DW.seq ?_
    refine DW.reg (by simp [w0]; rfl) ?_
    refine DW.block ?_
    refine DW.loopS (α := Nat) (fun i => i ≤ l.length ∧ 0 ≤ (left - (l.length : Int) + (i : Int) - (szL (l.take i) : Int))) (fun i => l.length - i) (fun i => [(5, vi i), (1, vi (left - (l.length : Int) + (i : Int) - (szL (l.take i) : Int)))]) (fun i => []) [(0, _)] [] [] 0 (⟨by omega, by simp; omega⟩) (by simp; exact rfl) (by simp) (by simp) (by rfl) ?_
    intro i hi
    obtain ⟨hi, hp⟩ := hi
    refine DW.seq ?_
    refine DW.seq ?_
    refine DW.reg (by simp [w0]; rfl) ?_
    refine DW.condB (by simp [w0]; exact rfl) (fun hc1 => ?_) (fun hc1 => ?_)
    · have hlt : i < l.length := by simpa using hc1
      have hd := rR_drop_Cell l i hlt
      have hs := szL_at l i hlt
      have hst := szL_take l i hlt
      have hdl := szL_len (l.drop (i + 1))
      rw [List.length_drop] at hdl
      have hoc := okL_at ho i hlt
      have hlt' : (i : Int) < l.length := by omega
      have w1 : IntKind.i64.wrap ((i : Int) + 1) = ((i + 1 : Nat) : Int) := (wr _ (by omega) (by omega)).trans (by omega)
      generalize l[i] = c at hd hs hst hoc
      refine DW.skip ?_
      refine DW.seq ?_
      refine DW.block ?_
      refine DW.seq ?_
      refine DW.regs ?_
      refine RegO.opN 5 (by simp [w0, hd, hlt']; rfl) ?_
      refine RegO.step rfl (OpStep.callA rfl (by simp [w0, hd, hlt']; exact ⟨rfl, rfl⟩) (by simp [w0, hd, hlt']; rfl) (by exact szCell_spec _ _ (by omega) (by omega) hoc) (by simp) (by simp [w0, hd, hlt']; rfl)) ?_
      refine RegO.opN 1 (by simp [w0, hd, hlt']; rfl) ?_
      refine RegO.nil ?_
      refine DW.seq ?_
      refine DW.reg (by simp [w0]; rfl) ?_
      refine DW.condB (by simp [w0]; exact rfl) (fun hc2 => ?_) (fun hc2 => ?_)
      · have hn : (left - (l.length : Int) + (i : Int) - (szL (l.take i) : Int)) - (Row.sz c : Int) < 0 := by simpa using hc2
        have hr : szr (left - (szL l : Int)) = -1 := szr_neg (by omega)
        refine DW.seq ?_
        refine DW.reg (by simp [w0]; rfl) ?_
        refine DW.ret ?_
        simp [Tryz.results148, hr]
      · have hn : ¬ ((left - (l.length : Int) + (i : Int) - (szL (l.take i) : Int)) - (Row.sz c : Int) < 0) := by simpa using hc2
        have hq : szr ((left - (l.length : Int) + (i : Int) - (szL (l.take i) : Int)) - (Row.sz c : Int)) = (left - (l.length : Int) + ((i + 1 : Nat) : Int) - (szL (l.take (i + 1)) : Int)) := by rw [szr_pos (by omega)]; omega
        refine DW.skip ?_
        refine DW.reg (by simp [w0, w1, hq]; rfl) ?_
        exact ⟨i + 1, ⟨hlt, by omega⟩, by omega, by simp [hq], by simp, by simp, by rfl⟩
    · have hil : i = l.length := by
        have : ¬ i < l.length := by simpa using hc1
        omega
      subst hil
      rw [List.take_length] at hp
      have hr : szr (left - (szL l : Int)) = left - (l.length : Int) + (l.length : Int) - (szL l : Int) := by rw [szr_pos (by omega)]; omega
      refine DW.exit ?_
      refine DW.seq ?_
      refine DW.reg (by simp [w0]; rfl) ?_
      refine DW.ret ?_
      simp [Tryz.results148, hr]
theorem szMemory_spec (a : Memory) (left : Int) (h0 : 0 ≤ left) (h1 : left ≤ 1099511627776) (ho : Row.ok 281474976710656 a) : Spec Tryz.prog 97 [raMemory a, ri left] [none] [di (szr (left - (Row.sz a : Int)))] [raMemory a, ri left] := by
  refine Spec.intro Tryz.func97 rfl rfl Tryz.ntmps97 rfl (by simp) ?_
  have hz := Memory_sz a
  rw [Memory_ok] at ho
  obtain ⟨o0, o1⟩ := ho
  have w0 : IntKind.i64.wrap (left - (a.Kept.size : Int)) = left - (a.Kept.size : Int) := wr _ (by omega) (by omega)
  refine DW.seq ?_
  refine DW.reg (by simp [w0]; rfl) ?_
  refine DW.seq ?_
  refine DW.reg (by simp [w0]; rfl) ?_
  refine DW.seq ?_
  refine DW.seq ?_
  refine DW.reg (by simp [w0]; rfl) ?_
  refine DW.condB (by simp [w0]; exact rfl) (fun hc0 => ?_) (fun hc0 => ?_)
  · have q0 : True := trivial
    have w1 : True := trivial
    have hn0 : left - (a.Kept.size : Int) < 0 := by simpa using hc0
    have hr : szr (left - (Row.sz a : Int)) = -1 := szr_neg (by omega)
    refine DW.seq ?_
    refine DW.reg (by simp [q0, w0]; rfl) ?_
    refine DW.ret ?_
    simp [Tryz.results97, hr]
  · have hn0 : ¬ (left - (a.Kept.size : Int) < 0) := by simpa using hc0
    have q0 : szr (left - (a.Kept.size : Int)) = left - (a.Kept.size : Int) := szr_pos (by omega)
    refine DW.skip ?_
    refine DW.seq ?_
    refine DW.regs ?_
    refine RegO.opN 3 (by simp [q0, w0]; rfl) ?_
    refine RegO.step rfl (OpStep.callA rfl (by simp [q0, w0]; exact ⟨rfl, rfl⟩) (by simp [q0, w0]; rfl) (by exact szCellS_spec _ _ (by omega) (by omega) o1) (by simp) (by simp [q0, w0]; rfl)) ?_
    refine RegO.opN 1 (by simp [q0, w0]; rfl) ?_
    refine RegO.nil ?_
    refine DW.seq ?_
    refine DW.seq ?_
    refine DW.reg (by simp [q0, w0]; rfl) ?_
    refine DW.condB (by simp [q0, w0]; exact rfl) (fun hc1 => ?_) (fun hc1 => ?_)
    · have q1 : True := trivial
      have w2 : True := trivial
      have hn1 : left - (a.Kept.size : Int) - (szL a.Cells : Int) < 0 := by simpa using hc1
      have hr : szr (left - (Row.sz a : Int)) = -1 := szr_neg (by omega)
      refine DW.seq ?_
      refine DW.reg (by simp [q0, q1, w0]; rfl) ?_
      refine DW.ret ?_
      simp [Tryz.results97, hr]
    · have hn1 : ¬ (left - (a.Kept.size : Int) - (szL a.Cells : Int) < 0) := by simpa using hc1
      have q1 : szr (left - (a.Kept.size : Int) - (szL a.Cells : Int)) = left - (a.Kept.size : Int) - (szL a.Cells : Int) := szr_pos (by omega)
      have hr : szr (left - (Row.sz a : Int)) = left - (a.Kept.size : Int) - (szL a.Cells : Int) := by rw [szr_pos (by omega)]; omega
      refine DW.skip ?_
      refine DW.seq ?_
      refine DW.reg (by simp [q0, q1, w0]; rfl) ?_
      refine DW.ret ?_
      simp [Tryz.results97, hr]
theorem szAsk_spec (a : Ask) (left : Int) (h0 : 0 ≤ left) (h1 : left ≤ 1099511627776) (ho : Row.ok 281474976710656 a) : Spec Tryz.prog 196 [raAsk a, ri left] [none] [di (szr (left - (Row.sz a : Int)))] [raAsk a, ri left] := by
  refine Spec.intro Tryz.func196 rfl rfl Tryz.ntmps196 rfl (by simp) ?_
  have hz := Ask_sz a
  rw [Ask_ok] at ho
  obtain ⟨_, o0, o1, _, _, o2⟩ := ho
  have w0 : IntKind.i64.wrap (left - (a.Path.size : Int)) = left - (a.Path.size : Int) := wr _ (by omega) (by omega)
  refine DW.seq ?_
  refine DW.reg (by simp [w0]; rfl) ?_
  refine DW.seq ?_
  refine DW.reg (by simp [w0]; rfl) ?_
  refine DW.seq ?_
  refine DW.seq ?_
  refine DW.reg (by simp [w0]; rfl) ?_
  refine DW.condB (by simp [w0]; exact rfl) (fun hc0 => ?_) (fun hc0 => ?_)
  · have q0 : True := trivial
    have w1 : True := trivial
    have hn0 : left - (a.Path.size : Int) < 0 := by simpa using hc0
    have hr : szr (left - (Row.sz a : Int)) = -1 := szr_neg (by omega)
    refine DW.seq ?_
    refine DW.reg (by simp [q0, w0, w1]; rfl) ?_
    refine DW.ret ?_
    simp [Tryz.results196, hr]
  · have hn0 : ¬ (left - (a.Path.size : Int) < 0) := by simpa using hc0
    have q0 : szr (left - (a.Path.size : Int)) = left - (a.Path.size : Int) := szr_pos (by omega)
    have w1 : IntKind.i64.wrap (left - (a.Path.size : Int) - (a.To.size : Int)) = left - (a.Path.size : Int) - (a.To.size : Int) := wr _ (by omega) (by omega)
    refine DW.skip ?_
    refine DW.seq ?_
    refine DW.reg (by simp [q0, w0, w1]; rfl) ?_
    refine DW.seq ?_
    refine DW.seq ?_
    refine DW.reg (by simp [q0, w0, w1]; rfl) ?_
    refine DW.condB (by simp [q0, w0, w1]; exact rfl) (fun hc1 => ?_) (fun hc1 => ?_)
    · have q1 : True := trivial
      have w2 : True := trivial
      have hn1 : left - (a.Path.size : Int) - (a.To.size : Int) < 0 := by simpa using hc1
      have hr : szr (left - (Row.sz a : Int)) = -1 := szr_neg (by omega)
      refine DW.seq ?_
      refine DW.reg (by simp [q0, q1, w0, w1, w2]; rfl) ?_
      refine DW.ret ?_
      simp [Tryz.results196, hr]
    · have hn1 : ¬ (left - (a.Path.size : Int) - (a.To.size : Int) < 0) := by simpa using hc1
      have q1 : szr (left - (a.Path.size : Int) - (a.To.size : Int)) = left - (a.Path.size : Int) - (a.To.size : Int) := szr_pos (by omega)
      have w2 : IntKind.i64.wrap (left - (a.Path.size : Int) - (a.To.size : Int) - (a.Text.size : Int)) = left - (a.Path.size : Int) - (a.To.size : Int) - (a.Text.size : Int) := wr _ (by omega) (by omega)
      refine DW.skip ?_
      refine DW.seq ?_
      refine DW.reg (by simp [q0, q1, w0, w1, w2]; rfl) ?_
      refine DW.seq ?_
      refine DW.seq ?_
      refine DW.reg (by simp [q0, q1, w0, w1, w2]; rfl) ?_
      refine DW.condB (by simp [q0, q1, w0, w1, w2]; exact rfl) (fun hc2 => ?_) (fun hc2 => ?_)
      · have q2 : True := trivial
        have w3 : True := trivial
        have hn2 : left - (a.Path.size : Int) - (a.To.size : Int) - (a.Text.size : Int) < 0 := by simpa using hc2
        have hr : szr (left - (Row.sz a : Int)) = -1 := szr_neg (by omega)
        refine DW.seq ?_
        refine DW.reg (by simp [q0, q1, q2, w0, w1, w2]; rfl) ?_
        refine DW.ret ?_
        simp [Tryz.results196, hr]
      · have hn2 : ¬ (left - (a.Path.size : Int) - (a.To.size : Int) - (a.Text.size : Int) < 0) := by simpa using hc2
        have q2 : szr (left - (a.Path.size : Int) - (a.To.size : Int) - (a.Text.size : Int)) = left - (a.Path.size : Int) - (a.To.size : Int) - (a.Text.size : Int) := szr_pos (by omega)
        have hr : szr (left - (Row.sz a : Int)) = left - (a.Path.size : Int) - (a.To.size : Int) - (a.Text.size : Int) := by rw [szr_pos (by omega)]; omega
        refine DW.skip ?_
        refine DW.seq ?_
        refine DW.reg (by simp [q0, q1, q2, w0, w1, w2]; rfl) ?_
        refine DW.ret ?_
        simp [Tryz.results196, hr]
theorem szStringS_spec (l : List ByteArray) (left : Int) (h0 : 0 ≤ left) (h1 : left ≤ 1099511627776) (ho : okL 281474976710656 l) : Spec Tryz.prog 238 [ra l, ri left] [none] [di (szr (left - (szL l : Int)))] [ra l, ri left] := by
  refine Spec.intro Tryz.func238 rfl rfl Tryz.ntmps238 rfl (by simp) ?_
  have hll := szL_len l
  have hl := ho.1
  have w0 : IntKind.i64.wrap (left - (l.length : Int)) = left - (l.length : Int) := wr _ (by omega) (by omega)
  refine DW.seq ?_
  refine DW.reg (by simp [w0]; rfl) ?_
  refine DW.seq ?_
  refine DW.reg (by simp [w0]; rfl) ?_
  refine DW.seq ?_
  refine DW.seq ?_
  refine DW.reg (by simp [w0]; rfl) ?_
  refine DW.condB (by simp [w0]; exact rfl) (fun hc0 => ?_) (fun hc0 => ?_)
  · have hn : left - (l.length : Int) < 0 := by simpa using hc0
    have hr : szr (left - (szL l : Int)) = -1 := szr_neg (by omega)
    refine DW.seq ?_
    refine DW.reg (by simp [w0]; rfl) ?_
    refine DW.ret ?_
    simp [Tryz.results238, hr]
  · have hn : ¬ (left - (l.length : Int) < 0) := by simpa using hc0
    refine DW.skip ?_
    refine DW.seq ?_
    refine DW.seq ?_
    refine DW.reg (by simp [w0]; rfl) ?_
    refine DW.block ?_
    refine DW.loopS (α := Nat) (fun i => i ≤ l.length ∧ 0 ≤ (left - (l.length : Int) + (i : Int) - (szL (l.take i) : Int))) (fun i => l.length - i) (fun i => [(5, vi i), (1, vi (left - (l.length : Int) + (i : Int) - (szL (l.take i) : Int)))]) (fun i => []) [(0, _)] [] [] 0 (⟨by omega, by simp; omega⟩) (by simp; exact rfl) (by simp) (by simp) (by rfl) ?_
    intro i hi
    obtain ⟨hi, hp⟩ := hi
    refine DW.seq ?_
    refine DW.seq ?_
    refine DW.reg (by simp [w0]; rfl) ?_
    refine DW.condB (by simp [w0]; exact rfl) (fun hc1 => ?_) (fun hc1 => ?_)
    · have hlt : i < l.length := by simpa using hc1
      have hd := rR_get_ByteArray l i hlt
      have hs := szL_at l i hlt
      have hst := szL_take l i hlt
      have hdl := szL_len (l.drop (i + 1))
      rw [List.length_drop] at hdl
      have hoc := okL_at ho i hlt
      have hlt' : (i : Int) < l.length := by omega
      have w1 : IntKind.i64.wrap ((i : Int) + 1) = ((i + 1 : Nat) : Int) := (wr _ (by omega) (by omega)).trans (by omega)
      generalize l[i] = c at hd hs hst hoc
      have hsc : Row.sz c = c.size := rfl
      have hoc2 : c.size ≤ 281474976710656 := hoc
      have hq : IntKind.i64.wrap ((left - (l.length : Int) + (i : Int) - (szL (l.take i) : Int)) - (c.size : Int)) = (left - (l.length : Int) + ((i + 1 : Nat) : Int) - (szL (l.take (i + 1)) : Int)) := (wr _ (by omega) (by omega)).trans (by omega)
      refine DW.skip ?_
      refine DW.seq ?_
      refine DW.block ?_
      refine DW.seq ?_
      refine DW.reg (by simp [w0, hd, hlt', hq]; rfl) ?_
      refine DW.seq ?_
      refine DW.reg (by simp [w0]; rfl) ?_
      refine DW.condB (by simp [w0]; exact rfl) (fun hc2 => ?_) (fun hc2 => ?_)
      · have hn : (left - (l.length : Int) + ((i + 1 : Nat) : Int) - (szL (l.take (i + 1)) : Int)) < 0 := by simpa using hc2
        have hr : szr (left - (szL l : Int)) = -1 := szr_neg (by omega)
        refine DW.seq ?_
        refine DW.reg (by simp [w0]; rfl) ?_
        refine DW.ret ?_
        simp [Tryz.results238, hr]
      · have hn : ¬ ((left - (l.length : Int) + ((i + 1 : Nat) : Int) - (szL (l.take (i + 1)) : Int)) < 0) := by simpa using hc2
        refine DW.skip ?_
        refine DW.reg (by simp [w0, w1]; rfl) ?_
        exact ⟨i + 1, ⟨hlt, by omega⟩, by omega, by simp, by simp, by simp, by rfl⟩
    · have hil : i = l.length := by
        have : ¬ i < l.length := by simpa using hc1
        omega
      subst hil
      rw [List.take_length] at hp
      have hr : szr (left - (szL l : Int)) = left - (l.length : Int) + (l.length : Int) - (szL l : Int) := by rw [szr_pos (by omega)]; omega
      refine DW.exit ?_
      refine DW.seq ?_
      refine DW.reg (by simp [w0]; rfl) ?_
      refine DW.ret ?_
      simp [Tryz.results238, hr]
theorem szResult_spec (a : Result) (left : Int) (h0 : 0 ≤ left) (h1 : left ≤ 1099511627776) (ho : Row.ok 281474976710656 a) : Spec Tryz.prog 197 [raResult a, ri left] [none] [di (szr (left - (Row.sz a : Int)))] [raResult a, ri left] := by
  refine Spec.intro Tryz.func197 rfl rfl Tryz.ntmps197 rfl (by simp) ?_
  have hz := Result_sz a
  rw [Result_ok] at ho
  obtain ⟨_, o0, _, o1⟩ := ho
  have w0 : IntKind.i64.wrap (left - (a.Text.size : Int)) = left - (a.Text.size : Int) := wr _ (by omega) (by omega)
  refine DW.seq ?_
  refine DW.reg (by simp [w0]; rfl) ?_
  refine DW.seq ?_
  refine DW.reg (by simp [w0]; rfl) ?_
  refine DW.seq ?_
  refine DW.seq ?_
  refine DW.reg (by simp [w0]; rfl) ?_
  refine DW.condB (by simp [w0]; exact rfl) (fun hc0 => ?_) (fun hc0 => ?_)
  · have q0 : True := trivial
    have w1 : True := trivial
    have hn0 : left - (a.Text.size : Int) < 0 := by simpa using hc0
    have hr : szr (left - (Row.sz a : Int)) = -1 := szr_neg (by omega)
    refine DW.seq ?_
    refine DW.reg (by simp [q0, w0]; rfl) ?_
    refine DW.ret ?_
    simp [Tryz.results197, hr]
  · have hn0 : ¬ (left - (a.Text.size : Int) < 0) := by simpa using hc0
    have q0 : szr (left - (a.Text.size : Int)) = left - (a.Text.size : Int) := szr_pos (by omega)
    refine DW.skip ?_
    refine DW.seq ?_
    refine DW.regs ?_
    refine RegO.opN 3 (by simp [q0, w0]; rfl) ?_
    refine RegO.step rfl (OpStep.callA rfl (by simp [q0, w0]; exact ⟨rfl, rfl⟩) (by simp [q0, w0]; rfl) (by exact szStringS_spec _ _ (by omega) (by omega) o1) (by simp) (by simp [q0, w0]; rfl)) ?_
    refine RegO.opN 1 (by simp [q0, w0]; rfl) ?_
    refine RegO.nil ?_
    refine DW.seq ?_
    refine DW.seq ?_
    refine DW.reg (by simp [q0, w0]; rfl) ?_
    refine DW.condB (by simp [q0, w0]; exact rfl) (fun hc1 => ?_) (fun hc1 => ?_)
    · have q1 : True := trivial
      have w2 : True := trivial
      have hn1 : left - (a.Text.size : Int) - (szL a.Names : Int) < 0 := by simpa using hc1
      have hr : szr (left - (Row.sz a : Int)) = -1 := szr_neg (by omega)
      refine DW.seq ?_
      refine DW.reg (by simp [q0, q1, w0]; rfl) ?_
      refine DW.ret ?_
      simp [Tryz.results197, hr]
    · have hn1 : ¬ (left - (a.Text.size : Int) - (szL a.Names : Int) < 0) := by simpa using hc1
      have q1 : szr (left - (a.Text.size : Int) - (szL a.Names : Int)) = left - (a.Text.size : Int) - (szL a.Names : Int) := szr_pos (by omega)
      have hr : szr (left - (Row.sz a : Int)) = left - (a.Text.size : Int) - (szL a.Names : Int) := by rw [szr_pos (by omega)]; omega
      refine DW.skip ?_
      refine DW.seq ?_
      refine DW.reg (by simp [q0, q1, w0]; rfl) ?_
      refine DW.ret ?_
      simp [Tryz.results197, hr]
theorem szStep_spec (a : Step) (left : Int) (h0 : 0 ≤ left) (h1 : left ≤ 1099511627776) (ho : Row.ok 281474976710656 a) : Spec Tryz.prog 239 [raStep a, ri left] [none] [di (szr (left - (Row.sz a : Int)))] [raStep a, ri left] := by
  refine Spec.intro Tryz.func239 rfl rfl Tryz.ntmps239 rfl (by simp) ?_
  have hz := Step_sz a
  rw [Step_ok] at ho
  obtain ⟨_, _, o0⟩ := ho
  have w0 : IntKind.i64.wrap (left - (a.Word.size : Int)) = left - (a.Word.size : Int) := wr _ (by omega) (by omega)
  refine DW.seq ?_
  refine DW.reg (by simp [w0]; rfl) ?_
  refine DW.seq ?_
  refine DW.reg (by simp [w0]; rfl) ?_
  refine DW.seq ?_
  refine DW.seq ?_
  refine DW.reg (by simp [w0]; rfl) ?_
  refine DW.condB (by simp [w0]; exact rfl) (fun hc0 => ?_) (fun hc0 => ?_)
  · have q0 : True := trivial
    have w1 : True := trivial
    have hn0 : left - (a.Word.size : Int) < 0 := by simpa using hc0
    have hr : szr (left - (Row.sz a : Int)) = -1 := szr_neg (by omega)
    refine DW.seq ?_
    refine DW.reg (by simp [q0, w0]; rfl) ?_
    refine DW.ret ?_
    simp [Tryz.results239, hr]
  · have hn0 : ¬ (left - (a.Word.size : Int) < 0) := by simpa using hc0
    have q0 : szr (left - (a.Word.size : Int)) = left - (a.Word.size : Int) := szr_pos (by omega)
    have hr : szr (left - (Row.sz a : Int)) = left - (a.Word.size : Int) := by rw [szr_pos (by omega)]; omega
    refine DW.skip ?_
    refine DW.seq ?_
    refine DW.reg (by simp [q0, w0]; rfl) ?_
    refine DW.ret ?_
    simp [Tryz.results239, hr]
theorem szStepS_spec (l : List Step) (left : Int) (h0 : 0 ≤ left) (h1 : left ≤ 1099511627776) (ho : okL 281474976710656 l) : Spec Tryz.prog 198 [ra l, ri left] [none] [di (szr (left - (szL l : Int)))] [ra l, ri left] := by
  refine Spec.intro Tryz.func198 rfl rfl Tryz.ntmps198 rfl (by simp) ?_
  have hll := szL_len l
  have hl := ho.1
  have w0 : IntKind.i64.wrap (left - (l.length : Int)) = left - (l.length : Int) := wr _ (by omega) (by omega)
  refine DW.seq ?_
  refine DW.reg (by simp [w0]; rfl) ?_
  refine DW.seq ?_
  refine DW.reg (by simp [w0]; rfl) ?_
  refine DW.seq ?_
  refine DW.seq ?_
  refine DW.reg (by simp [w0]; rfl) ?_
  refine DW.condB (by simp [w0]; exact rfl) (fun hc0 => ?_) (fun hc0 => ?_)
  · have hn : left - (l.length : Int) < 0 := by simpa using hc0
    have hr : szr (left - (szL l : Int)) = -1 := szr_neg (by omega)
    refine DW.seq ?_
    refine DW.reg (by simp [w0]; rfl) ?_
    refine DW.ret ?_
    simp [Tryz.results198, hr]
  · have hn : ¬ (left - (l.length : Int) < 0) := by simpa using hc0
    refine DW.skip ?_
    refine DW.seq ?_
    refine DW.seq ?_
    refine DW.reg (by simp [w0]; rfl) ?_
    refine DW.block ?_
    refine DW.loopS (α := Nat) (fun i => i ≤ l.length ∧ 0 ≤ (left - (l.length : Int) + (i : Int) - (szL (l.take i) : Int))) (fun i => l.length - i) (fun i => [(5, vi i), (1, vi (left - (l.length : Int) + (i : Int) - (szL (l.take i) : Int)))]) (fun i => []) [(0, _)] [] [] 0 (⟨by omega, by simp; omega⟩) (by simp; exact rfl) (by simp) (by simp) (by rfl) ?_
    intro i hi
    obtain ⟨hi, hp⟩ := hi
    refine DW.seq ?_
    refine DW.seq ?_
    refine DW.reg (by simp [w0]; rfl) ?_
    refine DW.condB (by simp [w0]; exact rfl) (fun hc1 => ?_) (fun hc1 => ?_)
    · have hlt : i < l.length := by simpa using hc1
      have hd := rR_drop_Step l i hlt
      have hs := szL_at l i hlt
      have hst := szL_take l i hlt
      have hdl := szL_len (l.drop (i + 1))
      rw [List.length_drop] at hdl
      have hoc := okL_at ho i hlt
      have hlt' : (i : Int) < l.length := by omega
      have w1 : IntKind.i64.wrap ((i : Int) + 1) = ((i + 1 : Nat) : Int) := (wr _ (by omega) (by omega)).trans (by omega)
      generalize l[i] = c at hd hs hst hoc
      refine DW.skip ?_
      refine DW.seq ?_
      refine DW.block ?_
      refine DW.seq ?_
      refine DW.regs ?_
      refine RegO.opN 5 (by simp [w0, hd, hlt']; rfl) ?_
      refine RegO.step rfl (OpStep.callA rfl (by simp [w0, hd, hlt']; exact ⟨rfl, rfl⟩) (by simp [w0, hd, hlt']; rfl) (by exact szStep_spec _ _ (by omega) (by omega) hoc) (by simp) (by simp [w0, hd, hlt']; rfl)) ?_
      refine RegO.opN 1 (by simp [w0, hd, hlt']; rfl) ?_
      refine RegO.nil ?_
      refine DW.seq ?_
      refine DW.reg (by simp [w0]; rfl) ?_
      refine DW.condB (by simp [w0]; exact rfl) (fun hc2 => ?_) (fun hc2 => ?_)
      · have hn : (left - (l.length : Int) + (i : Int) - (szL (l.take i) : Int)) - (Row.sz c : Int) < 0 := by simpa using hc2
        have hr : szr (left - (szL l : Int)) = -1 := szr_neg (by omega)
        refine DW.seq ?_
        refine DW.reg (by simp [w0]; rfl) ?_
        refine DW.ret ?_
        simp [Tryz.results198, hr]
      · have hn : ¬ ((left - (l.length : Int) + (i : Int) - (szL (l.take i) : Int)) - (Row.sz c : Int) < 0) := by simpa using hc2
        have hq : szr ((left - (l.length : Int) + (i : Int) - (szL (l.take i) : Int)) - (Row.sz c : Int)) = (left - (l.length : Int) + ((i + 1 : Nat) : Int) - (szL (l.take (i + 1)) : Int)) := by rw [szr_pos (by omega)]; omega
        refine DW.skip ?_
        refine DW.reg (by simp [w0, w1, hq]; rfl) ?_
        exact ⟨i + 1, ⟨hlt, by omega⟩, by omega, by simp [hq], by simp, by simp, by rfl⟩
    · have hil : i = l.length := by
        have : ¬ i < l.length := by simpa using hc1
        omega
      subst hil
      rw [List.take_length] at hp
      have hr : szr (left - (szL l : Int)) = left - (l.length : Int) + (l.length : Int) - (szL l : Int) := by rw [szr_pos (by omega)]; omega
      refine DW.exit ?_
      refine DW.seq ?_
      refine DW.reg (by simp [w0]; rfl) ?_
      refine DW.ret ?_
      simp [Tryz.results198, hr]
theorem szSealing_spec (a : Sealing) (left : Int) (h0 : 0 ≤ left) (h1 : left ≤ 1099511627776) (ho : Row.ok 281474976710656 a) : Spec Tryz.prog 150 [raSealing a, ri left] [none] [di (szr (left - (Row.sz a : Int)))] [raSealing a, ri left] := by
  refine Spec.intro Tryz.func150 rfl rfl Tryz.ntmps150 rfl (by simp) ?_
  have hz := Sealing_sz a
  rw [Sealing_ok] at ho
  obtain ⟨o0, o1, o2⟩ := ho
  have w0 : IntKind.i64.wrap (left - (a.Key.size : Int)) = left - (a.Key.size : Int) := wr _ (by omega) (by omega)
  refine DW.seq ?_
  refine DW.reg (by simp [w0]; rfl) ?_
  refine DW.seq ?_
  refine DW.reg (by simp [w0]; rfl) ?_
  refine DW.seq ?_
  refine DW.seq ?_
  refine DW.reg (by simp [w0]; rfl) ?_
  refine DW.condB (by simp [w0]; exact rfl) (fun hc0 => ?_) (fun hc0 => ?_)
  · have q0 : True := trivial
    have w1 : True := trivial
    have hn0 : left - (a.Key.size : Int) < 0 := by simpa using hc0
    have hr : szr (left - (Row.sz a : Int)) = -1 := szr_neg (by omega)
    refine DW.seq ?_
    refine DW.reg (by simp [q0, w0, w1]; rfl) ?_
    refine DW.ret ?_
    simp [Tryz.results150, hr]
  · have hn0 : ¬ (left - (a.Key.size : Int) < 0) := by simpa using hc0
    have q0 : szr (left - (a.Key.size : Int)) = left - (a.Key.size : Int) := szr_pos (by omega)
    have w1 : IntKind.i64.wrap (left - (a.Key.size : Int) - (a.Nonce.size : Int)) = left - (a.Key.size : Int) - (a.Nonce.size : Int) := wr _ (by omega) (by omega)
    refine DW.skip ?_
    refine DW.seq ?_
    refine DW.reg (by simp [q0, w0, w1]; rfl) ?_
    refine DW.seq ?_
    refine DW.seq ?_
    refine DW.reg (by simp [q0, w0, w1]; rfl) ?_
    refine DW.condB (by simp [q0, w0, w1]; exact rfl) (fun hc1 => ?_) (fun hc1 => ?_)
    · have q1 : True := trivial
      have w2 : True := trivial
      have hn1 : left - (a.Key.size : Int) - (a.Nonce.size : Int) < 0 := by simpa using hc1
      have hr : szr (left - (Row.sz a : Int)) = -1 := szr_neg (by omega)
      refine DW.seq ?_
      refine DW.reg (by simp [q0, q1, w0, w1, w2]; rfl) ?_
      refine DW.ret ?_
      simp [Tryz.results150, hr]
    · have hn1 : ¬ (left - (a.Key.size : Int) - (a.Nonce.size : Int) < 0) := by simpa using hc1
      have q1 : szr (left - (a.Key.size : Int) - (a.Nonce.size : Int)) = left - (a.Key.size : Int) - (a.Nonce.size : Int) := szr_pos (by omega)
      have w2 : IntKind.i64.wrap (left - (a.Key.size : Int) - (a.Nonce.size : Int) - (a.Text.size : Int)) = left - (a.Key.size : Int) - (a.Nonce.size : Int) - (a.Text.size : Int) := wr _ (by omega) (by omega)
      refine DW.skip ?_
      refine DW.seq ?_
      refine DW.reg (by simp [q0, q1, w0, w1, w2]; rfl) ?_
      refine DW.seq ?_
      refine DW.seq ?_
      refine DW.reg (by simp [q0, q1, w0, w1, w2]; rfl) ?_
      refine DW.condB (by simp [q0, q1, w0, w1, w2]; exact rfl) (fun hc2 => ?_) (fun hc2 => ?_)
      · have q2 : True := trivial
        have w3 : True := trivial
        have hn2 : left - (a.Key.size : Int) - (a.Nonce.size : Int) - (a.Text.size : Int) < 0 := by simpa using hc2
        have hr : szr (left - (Row.sz a : Int)) = -1 := szr_neg (by omega)
        refine DW.seq ?_
        refine DW.reg (by simp [q0, q1, q2, w0, w1, w2]; rfl) ?_
        refine DW.ret ?_
        simp [Tryz.results150, hr]
      · have hn2 : ¬ (left - (a.Key.size : Int) - (a.Nonce.size : Int) - (a.Text.size : Int) < 0) := by simpa using hc2
        have q2 : szr (left - (a.Key.size : Int) - (a.Nonce.size : Int) - (a.Text.size : Int)) = left - (a.Key.size : Int) - (a.Nonce.size : Int) - (a.Text.size : Int) := szr_pos (by omega)
        have hr : szr (left - (Row.sz a : Int)) = left - (a.Key.size : Int) - (a.Nonce.size : Int) - (a.Text.size : Int) := by rw [szr_pos (by omega)]; omega
        refine DW.skip ?_
        refine DW.seq ?_
        refine DW.reg (by simp [q0, q1, q2, w0, w1, w2]; rfl) ?_
        refine DW.ret ?_
        simp [Tryz.results150, hr]
theorem szSealingS_spec (l : List Sealing) (left : Int) (h0 : 0 ≤ left) (h1 : left ≤ 1099511627776) (ho : okL 281474976710656 l) : Spec Tryz.prog 99 [ra l, ri left] [none] [di (szr (left - (szL l : Int)))] [ra l, ri left] := by
  refine Spec.intro Tryz.func99 rfl rfl Tryz.ntmps99 rfl (by simp) ?_
  have hll := szL_len l
  have hl := ho.1
  have w0 : IntKind.i64.wrap (left - (l.length : Int)) = left - (l.length : Int) := wr _ (by omega) (by omega)
  refine DW.seq ?_
  refine DW.reg (by simp [w0]; rfl) ?_
  refine DW.seq ?_
  refine DW.reg (by simp [w0]; rfl) ?_
  refine DW.seq ?_
  refine DW.seq ?_
  refine DW.reg (by simp [w0]; rfl) ?_
  refine DW.condB (by simp [w0]; exact rfl) (fun hc0 => ?_) (fun hc0 => ?_)
  · have hn : left - (l.length : Int) < 0 := by simpa using hc0
    have hr : szr (left - (szL l : Int)) = -1 := szr_neg (by omega)
    refine DW.seq ?_
    refine DW.reg (by simp [w0]; rfl) ?_
    refine DW.ret ?_
    simp [Tryz.results99, hr]
  · have hn : ¬ (left - (l.length : Int) < 0) := by simpa using hc0
    refine DW.skip ?_
    refine DW.seq ?_
    refine DW.seq ?_
    refine DW.reg (by simp [w0]; rfl) ?_
    refine DW.block ?_
    refine DW.loopS (α := Nat) (fun i => i ≤ l.length ∧ 0 ≤ (left - (l.length : Int) + (i : Int) - (szL (l.take i) : Int))) (fun i => l.length - i) (fun i => [(5, vi i), (1, vi (left - (l.length : Int) + (i : Int) - (szL (l.take i) : Int)))]) (fun i => []) [(0, _)] [] [] 0 (⟨by omega, by simp; omega⟩) (by simp; exact rfl) (by simp) (by simp) (by rfl) ?_
    intro i hi
    obtain ⟨hi, hp⟩ := hi
    refine DW.seq ?_
    refine DW.seq ?_
    refine DW.reg (by simp [w0]; rfl) ?_
    refine DW.condB (by simp [w0]; exact rfl) (fun hc1 => ?_) (fun hc1 => ?_)
    · have hlt : i < l.length := by simpa using hc1
      have hd := rR_drop_Sealing l i hlt
      have hs := szL_at l i hlt
      have hst := szL_take l i hlt
      have hdl := szL_len (l.drop (i + 1))
      rw [List.length_drop] at hdl
      have hoc := okL_at ho i hlt
      have hlt' : (i : Int) < l.length := by omega
      have w1 : IntKind.i64.wrap ((i : Int) + 1) = ((i + 1 : Nat) : Int) := (wr _ (by omega) (by omega)).trans (by omega)
      generalize l[i] = c at hd hs hst hoc
      refine DW.skip ?_
      refine DW.seq ?_
      refine DW.block ?_
      refine DW.seq ?_
      refine DW.regs ?_
      refine RegO.opN 5 (by simp [w0, hd, hlt']; rfl) ?_
      refine RegO.step rfl (OpStep.callA rfl (by simp [w0, hd, hlt']; exact ⟨rfl, rfl⟩) (by simp [w0, hd, hlt']; rfl) (by exact szSealing_spec _ _ (by omega) (by omega) hoc) (by simp) (by simp [w0, hd, hlt']; rfl)) ?_
      refine RegO.opN 1 (by simp [w0, hd, hlt']; rfl) ?_
      refine RegO.nil ?_
      refine DW.seq ?_
      refine DW.reg (by simp [w0]; rfl) ?_
      refine DW.condB (by simp [w0]; exact rfl) (fun hc2 => ?_) (fun hc2 => ?_)
      · have hn : (left - (l.length : Int) + (i : Int) - (szL (l.take i) : Int)) - (Row.sz c : Int) < 0 := by simpa using hc2
        have hr : szr (left - (szL l : Int)) = -1 := szr_neg (by omega)
        refine DW.seq ?_
        refine DW.reg (by simp [w0]; rfl) ?_
        refine DW.ret ?_
        simp [Tryz.results99, hr]
      · have hn : ¬ ((left - (l.length : Int) + (i : Int) - (szL (l.take i) : Int)) - (Row.sz c : Int) < 0) := by simpa using hc2
        have hq : szr ((left - (l.length : Int) + (i : Int) - (szL (l.take i) : Int)) - (Row.sz c : Int)) = (left - (l.length : Int) + ((i + 1 : Nat) : Int) - (szL (l.take (i + 1)) : Int)) := by rw [szr_pos (by omega)]; omega
        refine DW.skip ?_
        refine DW.reg (by simp [w0, w1, hq]; rfl) ?_
        exact ⟨i + 1, ⟨hlt, by omega⟩, by omega, by simp [hq], by simp, by simp, by rfl⟩
    · have hil : i = l.length := by
        have : ¬ i < l.length := by simpa using hc1
        omega
      subst hil
      rw [List.take_length] at hp
      have hr : szr (left - (szL l : Int)) = left - (l.length : Int) + (l.length : Int) - (szL l : Int) := by rw [szr_pos (by omega)]; omega
      refine DW.exit ?_
      refine DW.seq ?_
      refine DW.reg (by simp [w0]; rfl) ?_
      refine DW.ret ?_
      simp [Tryz.results99, hr]
theorem szJob_spec (a : Job) (left : Int) (h0 : 0 ≤ left) (h1 : left ≤ 1099511627776) (ho : Row.ok 281474976710656 a) : Spec Tryz.prog 149 [raJob a, ri left] [none] [di (szr (left - (Row.sz a : Int)))] [raJob a, ri left] := by
  refine Spec.intro Tryz.func149 rfl rfl Tryz.ntmps149 rfl (by simp) ?_
  have hz := Job_sz a
  rw [Job_ok] at ho
  obtain ⟨o0, o1, o2, o3, _⟩ := ho
  have w0 : True := trivial
  refine DW.seq ?_
  refine DW.reg (by simp; rfl) ?_
  refine DW.seq ?_
  refine DW.regs ?_
  refine RegO.opN 3 (by simp; rfl) ?_
  refine RegO.step rfl (OpStep.callA rfl (by simp; exact ⟨rfl, rfl⟩) (by simp; rfl) (by exact szAsk_spec _ _ (by omega) (by omega) o0) (by simp) (by simp; rfl)) ?_
  refine RegO.opN 1 (by simp; rfl) ?_
  refine RegO.nil ?_
  refine DW.seq ?_
  refine DW.seq ?_
  refine DW.reg (by simp; rfl) ?_
  refine DW.condB (by simp; exact rfl) (fun hc0 => ?_) (fun hc0 => ?_)
  · have q0 : True := trivial
    have w1 : True := trivial
    have hn0 : left - (Row.sz a.Ask : Int) < 0 := by simpa using hc0
    have hr : szr (left - (Row.sz a : Int)) = -1 := szr_neg (by omega)
    refine DW.seq ?_
    refine DW.reg (by simp [q0]; rfl) ?_
    refine DW.ret ?_
    simp [Tryz.results149, hr]
  · have hn0 : ¬ (left - (Row.sz a.Ask : Int) < 0) := by simpa using hc0
    have q0 : szr (left - (Row.sz a.Ask : Int)) = left - (Row.sz a.Ask : Int) := szr_pos (by omega)
    refine DW.skip ?_
    refine DW.seq ?_
    refine DW.regs ?_
    refine RegO.opN 3 (by simp [q0]; rfl) ?_
    refine RegO.step rfl (OpStep.callA rfl (by simp [q0]; exact ⟨rfl, rfl⟩) (by simp [q0]; rfl) (by exact szResult_spec _ _ (by omega) (by omega) o1) (by simp) (by simp [q0]; rfl)) ?_
    refine RegO.opN 1 (by simp [q0]; rfl) ?_
    refine RegO.nil ?_
    refine DW.seq ?_
    refine DW.seq ?_
    refine DW.reg (by simp [q0]; rfl) ?_
    refine DW.condB (by simp [q0]; exact rfl) (fun hc1 => ?_) (fun hc1 => ?_)
    · have q1 : True := trivial
      have w2 : True := trivial
      have hn1 : left - (Row.sz a.Ask : Int) - (Row.sz a.Result : Int) < 0 := by simpa using hc1
      have hr : szr (left - (Row.sz a : Int)) = -1 := szr_neg (by omega)
      refine DW.seq ?_
      refine DW.reg (by simp [q0, q1]; rfl) ?_
      refine DW.ret ?_
      simp [Tryz.results149, hr]
    · have hn1 : ¬ (left - (Row.sz a.Ask : Int) - (Row.sz a.Result : Int) < 0) := by simpa using hc1
      have q1 : szr (left - (Row.sz a.Ask : Int) - (Row.sz a.Result : Int)) = left - (Row.sz a.Ask : Int) - (Row.sz a.Result : Int) := szr_pos (by omega)
      refine DW.skip ?_
      refine DW.seq ?_
      refine DW.regs ?_
      refine RegO.opN 3 (by simp [q0, q1]; rfl) ?_
      refine RegO.step rfl (OpStep.callA rfl (by simp [q0, q1]; exact ⟨rfl, rfl⟩) (by simp [q0, q1]; rfl) (by exact szStepS_spec _ _ (by omega) (by omega) o2) (by simp) (by simp [q0, q1]; rfl)) ?_
      refine RegO.opN 1 (by simp [q0, q1]; rfl) ?_
      refine RegO.nil ?_
      refine DW.seq ?_
      refine DW.seq ?_
      refine DW.reg (by simp [q0, q1]; rfl) ?_
      refine DW.condB (by simp [q0, q1]; exact rfl) (fun hc2 => ?_) (fun hc2 => ?_)
      · have q2 : True := trivial
        have w3 : True := trivial
        have hn2 : left - (Row.sz a.Ask : Int) - (Row.sz a.Result : Int) - (szL a.Steps : Int) < 0 := by simpa using hc2
        have hr : szr (left - (Row.sz a : Int)) = -1 := szr_neg (by omega)
        refine DW.seq ?_
        refine DW.reg (by simp [q0, q1, q2]; rfl) ?_
        refine DW.ret ?_
        simp [Tryz.results149, hr]
      · have hn2 : ¬ (left - (Row.sz a.Ask : Int) - (Row.sz a.Result : Int) - (szL a.Steps : Int) < 0) := by simpa using hc2
        have q2 : szr (left - (Row.sz a.Ask : Int) - (Row.sz a.Result : Int) - (szL a.Steps : Int)) = left - (Row.sz a.Ask : Int) - (Row.sz a.Result : Int) - (szL a.Steps : Int) := szr_pos (by omega)
        refine DW.skip ?_
        refine DW.seq ?_
        refine DW.regs ?_
        refine RegO.opN 3 (by simp [q0, q1, q2]; rfl) ?_
        refine RegO.step rfl (OpStep.callA rfl (by simp [q0, q1, q2]; exact ⟨rfl, rfl⟩) (by simp [q0, q1, q2]; rfl) (by exact szSealingS_spec _ _ (by omega) (by omega) o3) (by simp) (by simp [q0, q1, q2]; rfl)) ?_
        refine RegO.opN 1 (by simp [q0, q1, q2]; rfl) ?_
        refine RegO.nil ?_
        refine DW.seq ?_
        refine DW.seq ?_
        refine DW.reg (by simp [q0, q1, q2]; rfl) ?_
        refine DW.condB (by simp [q0, q1, q2]; exact rfl) (fun hc3 => ?_) (fun hc3 => ?_)
        · have q3 : True := trivial
          have w4 : True := trivial
          have hn3 : left - (Row.sz a.Ask : Int) - (Row.sz a.Result : Int) - (szL a.Steps : Int) - (szL a.Seals : Int) < 0 := by simpa using hc3
          have hr : szr (left - (Row.sz a : Int)) = -1 := szr_neg (by omega)
          refine DW.seq ?_
          refine DW.reg (by simp [q0, q1, q2, q3]; rfl) ?_
          refine DW.ret ?_
          simp [Tryz.results149, hr]
        · have hn3 : ¬ (left - (Row.sz a.Ask : Int) - (Row.sz a.Result : Int) - (szL a.Steps : Int) - (szL a.Seals : Int) < 0) := by simpa using hc3
          have q3 : szr (left - (Row.sz a.Ask : Int) - (Row.sz a.Result : Int) - (szL a.Steps : Int) - (szL a.Seals : Int)) = left - (Row.sz a.Ask : Int) - (Row.sz a.Result : Int) - (szL a.Steps : Int) - (szL a.Seals : Int) := szr_pos (by omega)
          have hr : szr (left - (Row.sz a : Int)) = left - (Row.sz a.Ask : Int) - (Row.sz a.Result : Int) - (szL a.Steps : Int) - (szL a.Seals : Int) := by rw [szr_pos (by omega)]; omega
          refine DW.skip ?_
          refine DW.seq ?_
          refine DW.reg (by simp [q0, q1, q2, q3]; rfl) ?_
          refine DW.ret ?_
          simp [Tryz.results149, hr]
theorem szJobS_spec (l : List Job) (left : Int) (h0 : 0 ≤ left) (h1 : left ≤ 1099511627776) (ho : okL 281474976710656 l) : Spec Tryz.prog 98 [ra l, ri left] [none] [di (szr (left - (szL l : Int)))] [ra l, ri left] := by
  refine Spec.intro Tryz.func98 rfl rfl Tryz.ntmps98 rfl (by simp) ?_
  have hll := szL_len l
  have hl := ho.1
  have w0 : IntKind.i64.wrap (left - (l.length : Int)) = left - (l.length : Int) := wr _ (by omega) (by omega)
  refine DW.seq ?_
  refine DW.reg (by simp [w0]; rfl) ?_
  refine DW.seq ?_
  refine DW.reg (by simp [w0]; rfl) ?_
  refine DW.seq ?_
  refine DW.seq ?_
  refine DW.reg (by simp [w0]; rfl) ?_
  refine DW.condB (by simp [w0]; exact rfl) (fun hc0 => ?_) (fun hc0 => ?_)
  · have hn : left - (l.length : Int) < 0 := by simpa using hc0
    have hr : szr (left - (szL l : Int)) = -1 := szr_neg (by omega)
    refine DW.seq ?_
    refine DW.reg (by simp [w0]; rfl) ?_
    refine DW.ret ?_
    simp [Tryz.results98, hr]
  · have hn : ¬ (left - (l.length : Int) < 0) := by simpa using hc0
    refine DW.skip ?_
    refine DW.seq ?_
    refine DW.seq ?_
    refine DW.reg (by simp [w0]; rfl) ?_
    refine DW.block ?_
    refine DW.loopS (α := Nat) (fun i => i ≤ l.length ∧ 0 ≤ (left - (l.length : Int) + (i : Int) - (szL (l.take i) : Int))) (fun i => l.length - i) (fun i => [(5, vi i), (1, vi (left - (l.length : Int) + (i : Int) - (szL (l.take i) : Int)))]) (fun i => []) [(0, _)] [] [] 0 (⟨by omega, by simp; omega⟩) (by simp; exact rfl) (by simp) (by simp) (by rfl) ?_
    intro i hi
    obtain ⟨hi, hp⟩ := hi
    refine DW.seq ?_
    refine DW.seq ?_
    refine DW.reg (by simp [w0]; rfl) ?_
    refine DW.condB (by simp [w0]; exact rfl) (fun hc1 => ?_) (fun hc1 => ?_)
    · have hlt : i < l.length := by simpa using hc1
      have hd := rR_drop_Job l i hlt
      have hs := szL_at l i hlt
      have hst := szL_take l i hlt
      have hdl := szL_len (l.drop (i + 1))
      rw [List.length_drop] at hdl
      have hoc := okL_at ho i hlt
      have hlt' : (i : Int) < l.length := by omega
      have w1 : IntKind.i64.wrap ((i : Int) + 1) = ((i + 1 : Nat) : Int) := (wr _ (by omega) (by omega)).trans (by omega)
      generalize l[i] = c at hd hs hst hoc
      refine DW.skip ?_
      refine DW.seq ?_
      refine DW.block ?_
      refine DW.seq ?_
      refine DW.regs ?_
      refine RegO.opN 5 (by simp [w0, hd, hlt']; rfl) ?_
      refine RegO.step rfl (OpStep.callA rfl (by simp [w0, hd, hlt']; exact ⟨rfl, rfl⟩) (by simp [w0, hd, hlt']; rfl) (by exact szJob_spec _ _ (by omega) (by omega) hoc) (by simp) (by simp [w0, hd, hlt']; rfl)) ?_
      refine RegO.opN 1 (by simp [w0, hd, hlt']; rfl) ?_
      refine RegO.nil ?_
      refine DW.seq ?_
      refine DW.reg (by simp [w0]; rfl) ?_
      refine DW.condB (by simp [w0]; exact rfl) (fun hc2 => ?_) (fun hc2 => ?_)
      · have hn : (left - (l.length : Int) + (i : Int) - (szL (l.take i) : Int)) - (Row.sz c : Int) < 0 := by simpa using hc2
        have hr : szr (left - (szL l : Int)) = -1 := szr_neg (by omega)
        refine DW.seq ?_
        refine DW.reg (by simp [w0]; rfl) ?_
        refine DW.ret ?_
        simp [Tryz.results98, hr]
      · have hn : ¬ ((left - (l.length : Int) + (i : Int) - (szL (l.take i) : Int)) - (Row.sz c : Int) < 0) := by simpa using hc2
        have hq : szr ((left - (l.length : Int) + (i : Int) - (szL (l.take i) : Int)) - (Row.sz c : Int)) = (left - (l.length : Int) + ((i + 1 : Nat) : Int) - (szL (l.take (i + 1)) : Int)) := by rw [szr_pos (by omega)]; omega
        refine DW.skip ?_
        refine DW.reg (by simp [w0, w1, hq]; rfl) ?_
        exact ⟨i + 1, ⟨hlt, by omega⟩, by omega, by simp [hq], by simp, by simp, by rfl⟩
    · have hil : i = l.length := by
        have : ¬ i < l.length := by simpa using hc1
        omega
      subst hil
      rw [List.take_length] at hp
      have hr : szr (left - (szL l : Int)) = left - (l.length : Int) + (l.length : Int) - (szL l : Int) := by rw [szr_pos (by omega)]; omega
      refine DW.exit ?_
      refine DW.seq ?_
      refine DW.reg (by simp [w0]; rfl) ?_
      refine DW.ret ?_
      simp [Tryz.results98, hr]
theorem szSystem_spec (a : System) (left : Int) (h0 : 0 ≤ left) (h1 : left ≤ 1099511627776) (ho : Row.ok 281474976710656 a) : Spec Tryz.prog 34 [raSystem a, ri left] [none] [di (szr (left - (Row.sz a : Int)))] [raSystem a, ri left] := by
  refine Spec.intro Tryz.func34 rfl rfl Tryz.ntmps34 rfl (by simp) ?_
  have hz := System_sz a
  rw [System_ok] at ho
  have huGeo := Geo_sz a.Geo
  obtain ⟨_, o0, o1, o2⟩ := ho
  have w0 : True := trivial
  refine DW.seq ?_
  refine DW.reg (by simp; rfl) ?_
  refine DW.seq ?_
  refine DW.regs ?_
  refine RegO.opN 3 (by simp; rfl) ?_
  refine RegO.step rfl (OpStep.callA rfl (by simp; exact ⟨rfl, rfl⟩) (by simp; rfl) (by exact szMemory_spec _ _ (by omega) (by omega) o0) (by simp) (by simp; rfl)) ?_
  refine RegO.opN 1 (by simp; rfl) ?_
  refine RegO.nil ?_
  refine DW.seq ?_
  refine DW.seq ?_
  refine DW.reg (by simp; rfl) ?_
  refine DW.condB (by simp; exact rfl) (fun hc0 => ?_) (fun hc0 => ?_)
  · have q0 : True := trivial
    have w1 : True := trivial
    have hn0 : left - (Row.sz a.Memory : Int) < 0 := by simpa using hc0
    have hr : szr (left - (Row.sz a : Int)) = -1 := szr_neg (by omega)
    refine DW.seq ?_
    refine DW.reg (by simp [q0]; rfl) ?_
    refine DW.ret ?_
    simp [Tryz.results34, hr]
  · have hn0 : ¬ (left - (Row.sz a.Memory : Int) < 0) := by simpa using hc0
    have q0 : szr (left - (Row.sz a.Memory : Int)) = left - (Row.sz a.Memory : Int) := szr_pos (by omega)
    refine DW.skip ?_
    refine DW.seq ?_
    refine DW.regs ?_
    refine RegO.opN 3 (by simp [q0]; rfl) ?_
    refine RegO.step rfl (OpStep.callA rfl (by simp [q0]; exact ⟨rfl, rfl⟩) (by simp [q0]; rfl) (by exact szJobS_spec _ _ (by omega) (by omega) o1) (by simp) (by simp [q0]; rfl)) ?_
    refine RegO.opN 1 (by simp [q0]; rfl) ?_
    refine RegO.nil ?_
    refine DW.seq ?_
    refine DW.seq ?_
    refine DW.reg (by simp [q0]; rfl) ?_
    refine DW.condB (by simp [q0]; exact rfl) (fun hc1 => ?_) (fun hc1 => ?_)
    · have q1 : True := trivial
      have w2 : True := trivial
      have hn1 : left - (Row.sz a.Memory : Int) - (szL a.Jobs : Int) < 0 := by simpa using hc1
      have hr : szr (left - (Row.sz a : Int)) = -1 := szr_neg (by omega)
      refine DW.seq ?_
      refine DW.reg (by simp [q0, q1]; rfl) ?_
      refine DW.ret ?_
      simp [Tryz.results34, hr]
    · have hn1 : ¬ (left - (Row.sz a.Memory : Int) - (szL a.Jobs : Int) < 0) := by simpa using hc1
      have q1 : szr (left - (Row.sz a.Memory : Int) - (szL a.Jobs : Int)) = left - (Row.sz a.Memory : Int) - (szL a.Jobs : Int) := szr_pos (by omega)
      refine DW.skip ?_
      refine DW.seq ?_
      refine DW.regs ?_
      refine RegO.opN 3 (by simp [q0, q1]; rfl) ?_
      refine RegO.step rfl (OpStep.callA rfl (by simp [q0, q1]; exact ⟨rfl, rfl⟩) (by simp [q0, q1]; rfl) (by exact szSealingS_spec _ _ (by omega) (by omega) o2) (by simp) (by simp [q0, q1]; rfl)) ?_
      refine RegO.opN 1 (by simp [q0, q1]; rfl) ?_
      refine RegO.nil ?_
      refine DW.seq ?_
      refine DW.seq ?_
      refine DW.reg (by simp [q0, q1]; rfl) ?_
      refine DW.condB (by simp [q0, q1]; exact rfl) (fun hc2 => ?_) (fun hc2 => ?_)
      · have q2 : True := trivial
        have w3 : True := trivial
        have hn2 : left - (Row.sz a.Memory : Int) - (szL a.Jobs : Int) - (szL a.Seals : Int) < 0 := by simpa using hc2
        have hr : szr (left - (Row.sz a : Int)) = -1 := szr_neg (by omega)
        refine DW.seq ?_
        refine DW.reg (by simp [q0, q1, q2]; rfl) ?_
        refine DW.ret ?_
        simp [Tryz.results34, hr]
      · have hn2 : ¬ (left - (Row.sz a.Memory : Int) - (szL a.Jobs : Int) - (szL a.Seals : Int) < 0) := by simpa using hc2
        have q2 : szr (left - (Row.sz a.Memory : Int) - (szL a.Jobs : Int) - (szL a.Seals : Int)) = left - (Row.sz a.Memory : Int) - (szL a.Jobs : Int) - (szL a.Seals : Int) := szr_pos (by omega)
        have hr : szr (left - (Row.sz a : Int)) = left - (Row.sz a.Memory : Int) - (szL a.Jobs : Int) - (szL a.Seals : Int) := by rw [szr_pos (by omega)]; omega
        refine DW.skip ?_
        refine DW.seq ?_
        refine DW.reg (by simp [q0, q1, q2]; rfl) ?_
        refine DW.ret ?_
        simp [Tryz.results34, hr]
theorem toGeo_spec (a : Geo) (h : Row.sz a ≤ 2 ^ 36) : Spec Tryz.prog 11 [raGeo a] [some 4] (Geo.d a) [raGeo a] := by
  refine Spec.intro Tryz.func11 rfl rfl Tryz.ntmps11 rfl (by simp) ?_
  have hz := Geo_sz a
  refine DW.seq ?_
  refine DW.reg (by simp; rfl) ?_
  refine DW.seq ?_
  refine DW.reg (by simp; rfl) ?_
  refine DW.seq ?_
  refine DW.reg (by simp; rfl) ?_
  refine DW.seq ?_
  refine DW.reg (by simp; rfl) ?_
  refine DW.seq ?_
  refine DW.reg (by simp; rfl) ?_
  refine DW.seq ?_
  refine DW.reg (by simp; rfl) ?_
  refine DW.seq ?_
  refine DW.reg (by simp; rfl) ?_
  refine DW.ret ?_
  simp [Tryz.results11]
theorem toCell_spec (a : Cell) (h : Row.sz a ≤ 2 ^ 36) : Spec Tryz.prog 204 [raCell a] [some 3] (Cell.d a) [raCell a] := by
  refine Spec.intro Tryz.func204 rfl rfl Tryz.ntmps204 rfl (by simp) ?_
  have hz := Cell_sz a
  refine DW.seq ?_
  refine DW.reg (by simp; rfl) ?_
  refine DW.seq ?_
  refine DW.reg (by simp; rfl) ?_
  refine DW.seq ?_
  refine DW.reg (by simp; rfl) ?_
  refine DW.seq ?_
  refine DW.reg (by simp; rfl) ?_
  refine DW.seq ?_
  refine DW.reg (by simp; rfl) ?_
  refine DW.seq ?_
  refine DW.reg (by simp; rfl) ?_
  refine DW.ret ?_
  simp [Tryz.results204]
theorem toCellS_spec (l : List Cell) (h : szL l ≤ 2 ^ 36) : Spec Tryz.prog 155 [ra l] [none] [dr l] [ra l] := by
  refine Spec.intro Tryz.func155 rfl rfl Tryz.ntmps155 rfl (by simp) ?_
  have hll := szL_len l
  have hb1 : (32 : Int) * l.length ≤ 281474976710656 := by omega
  have hb2 : (l.length : Int) ≤ 281474976710656 := by omega
  refine DW.seq ?_
  refine DW.reg (by simp; rfl) ?_
  refine DW.seq ?_
  refine DW.reg (by simp [hb1, hb2]; rfl) ?_
  refine DW.seq ?_
  refine DW.seq ?_
  refine DW.reg (by simp; rfl) ?_
  refine DW.block ?_
  refine DW.loopS (α := Nat) (fun i => i ≤ l.length) (fun i => l.length - i) (fun i => [(4, vi i)]) (fun i => [(7, .ow () 3 l.length (rD (l.take i) ++ (List.replicate (l.length - i) ([.sc (.int .i64 0), .sc (.string ByteArray.empty), .sc (.bool false)] : List D)).flatten))]) [(0, _), (3, _)] [] [] 0 (by simp) (by simp; exact ⟨rfl, rfl⟩) (by simp) (by simp) (by rfl) ?_
  intro i hi
  refine DW.seq ?_
  refine DW.seq ?_
  refine DW.reg (by simp; rfl) ?_
  refine DW.condB (by simp; exact rfl) (fun hc0 => ?_) (fun hc0 => ?_)
  · have hlt : i < l.length := by simpa using hc0
    have hd := rR_drop_Cell l i hlt
    have hs := szL_at l i hlt
    have hlt' : (i : Int) < l.length := by omega
    have w1 : IntKind.i64.wrap ((i : Int) + 1) = ((i + 1 : Nat) : Int) := (wr _ (by omega) (by omega)).trans (by omega)
    have hA : (rD (l.take i)).length = i * 3 := by rw [rD_len_Cell, List.length_take, Nat.min_eq_left (by omega)]
    have hz1 : (List.replicate (l.length - i) ([.sc (.int .i64 0), .sc (.string ByteArray.empty), .sc (.bool false)] : List D)).flatten = [.sc (.int .i64 0), .sc (.string ByteArray.empty), .sc (.bool false)] ++ (List.replicate (l.length - (i + 1)) ([.sc (.int .i64 0), .sc (.string ByteArray.empty), .sc (.bool false)] : List D)).flatten := by rw [show l.length - i = (l.length - (i + 1)) + 1 by omega, List.replicate_succ, List.flatten_cons]
    have hz2 : rD (l.take (i + 1)) = rD (l.take i) ++ Row.d l[i] := by rw [take_succ' l i hlt, rD_append]; simp [rD]
    simp only [Row.d] at hz2
    generalize l[i] = c at hd hs hz2
    refine DW.skip ?_
    refine DW.seq ?_
    refine DW.block ?_
    refine DW.regs ?_
    refine RegO.opN 6 (by simp [hd, hlt', hz1, app_get hA, app_get0 hA, app_set hA, app_set0 hA, Nat.add_assoc]; rfl) ?_
    refine RegO.step rfl (OpStep.callA rfl (by simp [hd, hlt', hz1, app_get hA, app_get0 hA, app_set hA, app_set0 hA, Nat.add_assoc]; exact ⟨rfl, rfl⟩) (by simp [hd, hlt', hz1, app_get hA, app_get0 hA, app_set hA, app_set0 hA, Nat.add_assoc]; rfl) (by exact toCell_spec _ (by omega)) (by simp) (by simp [hd, hlt', hz1, app_get hA, app_get0 hA, app_set hA, app_set0 hA, Nat.add_assoc]; rfl)) ?_
    refine RegO.opN 2 (by simp [hd, hlt', hz1, app_get hA, app_get0 hA, app_set hA, app_set0 hA, Nat.add_assoc]; rfl) ?_
    refine RegO.nil ?_
    refine DW.reg (by simp [w1]; rfl) ?_
    exact ⟨i + 1, hlt, by omega, by simp, by simp [hz2], by simp, by rfl⟩
  · have hil : i = l.length := by
      have : ¬ i < l.length := by simpa using hc0
      omega
    subst hil
    refine DW.exit ?_
    refine DW.seq ?_
    refine DW.reg (by simp; rfl) ?_
    refine DW.ret ?_
    simp [Tryz.results155]
theorem toMemory_spec (a : Memory) (h : Row.sz a ≤ 2 ^ 36) : Spec Tryz.prog 104 [raMemory a] [some 2] (Memory.d a) [raMemory a] := by
  refine Spec.intro Tryz.func104 rfl rfl Tryz.ntmps104 rfl (by simp) ?_
  have hz := Memory_sz a
  refine DW.seq ?_
  refine DW.reg (by simp; rfl) ?_
  refine DW.seq ?_
  refine DW.reg (by simp; rfl) ?_
  refine DW.seq ?_
  refine DW.reg (by simp; rfl) ?_
  refine DW.seq ?_
  refine DW.regs ?_
  refine RegO.opN 2 (by simp; rfl) ?_
  refine RegO.step rfl (OpStep.callA rfl (by simp; exact ⟨rfl, rfl⟩) (by simp; rfl) (by exact toCellS_spec _ (by omega)) (by simp) (by simp; rfl)) ?_
  refine RegO.opN 2 (by simp; rfl) ?_
  refine RegO.nil ?_
  refine DW.seq ?_
  refine DW.reg (by simp; rfl) ?_
  refine DW.ret ?_
  simp [Tryz.results104]
theorem toAsk_spec (a : Ask) (h : Row.sz a ≤ 2 ^ 36) : Spec Tryz.prog 205 [raAsk a] [some 6] (Ask.d a) [raAsk a] := by
  refine Spec.intro Tryz.func205 rfl rfl Tryz.ntmps205 rfl (by simp) ?_
  have hz := Ask_sz a
  refine DW.seq ?_
  refine DW.reg (by simp; rfl) ?_
  refine DW.seq ?_
  refine DW.reg (by simp; rfl) ?_
  refine DW.seq ?_
  refine DW.reg (by simp; rfl) ?_
  refine DW.seq ?_
  refine DW.reg (by simp; rfl) ?_
  refine DW.seq ?_
  refine DW.reg (by simp; rfl) ?_
  refine DW.seq ?_
  refine DW.reg (by simp; rfl) ?_
  refine DW.seq ?_
  refine DW.reg (by simp; rfl) ?_
  refine DW.seq ?_
  refine DW.reg (by simp; rfl) ?_
  refine DW.seq ?_
  refine DW.reg (by simp; rfl) ?_
  refine DW.ret ?_
  simp [Tryz.results205]
theorem toStringS_spec (l : List ByteArray) (h : szL l ≤ 2 ^ 36) : Spec Tryz.prog 241 [ra l] [none] [dr l] [ra l] := by
  refine Spec.intro Tryz.func241 rfl rfl Tryz.ntmps241 rfl (by simp) ?_
  have hll := szL_len l
  have hb1 : (16 : Int) * l.length ≤ 281474976710656 := by omega
  have hb2 : (l.length : Int) ≤ 281474976710656 := by omega
  refine DW.seq ?_
  refine DW.reg (by simp; rfl) ?_
  refine DW.seq ?_
  refine DW.reg (by simp [hb1, hb2]; rfl) ?_
  refine DW.seq ?_
  refine DW.seq ?_
  refine DW.reg (by simp; rfl) ?_
  refine DW.block ?_
  refine DW.loopS (α := Nat) (fun i => i ≤ l.length) (fun i => l.length - i) (fun i => [(4, vi i)]) (fun i => [(7, .ow () 1 l.length (rD (l.take i) ++ List.replicate (l.length - i) (.sc (.string ByteArray.empty) : D)))]) [(0, _), (3, _)] [] [] 0 (by simp) (by simp; exact ⟨rfl, rfl⟩) (by simp) (by simp) (by rfl) ?_
  intro i hi
  refine DW.seq ?_
  refine DW.seq ?_
  refine DW.reg (by simp; rfl) ?_
  refine DW.condB (by simp; exact rfl) (fun hc0 => ?_) (fun hc0 => ?_)
  · have hlt : i < l.length := by simpa using hc0
    have hd := rR_get_ByteArray l i hlt
    have hs := szL_at l i hlt
    have hlt' : (i : Int) < l.length := by omega
    have w1 : IntKind.i64.wrap ((i : Int) + 1) = ((i + 1 : Nat) : Int) := (wr _ (by omega) (by omega)).trans (by omega)
    have hA : (rD (l.take i)).length = i := by rw [rD_len_ByteArray, List.length_take, Nat.min_eq_left (by omega)]; omega
    have hz1 : List.replicate (l.length - i) (.sc (.string ByteArray.empty) : D) = .sc (.string ByteArray.empty) :: List.replicate (l.length - (i + 1)) (.sc (.string ByteArray.empty) : D) := by rw [show l.length - i = (l.length - (i + 1)) + 1 by omega, List.replicate_succ]
    have hz2 : rD (l.take (i + 1)) = rD (l.take i) ++ Row.d l[i] := by rw [take_succ' l i hlt, rD_append]; simp [rD]
    simp only [Row.d] at hz2
    generalize l[i] = c at hd hs hz2
    refine DW.skip ?_
    refine DW.seq ?_
    refine DW.block ?_
    refine DW.reg (by simp [hd, hlt', hz1, app_get hA, app_get0 hA, app_set hA, app_set0 hA, Nat.add_assoc]; rfl) ?_
    refine DW.reg (by simp [w1]; rfl) ?_
    exact ⟨i + 1, hlt, by omega, by simp, by simp [hz2], by simp, by rfl⟩
  · have hil : i = l.length := by
      have : ¬ i < l.length := by simpa using hc0
      omega
    subst hil
    refine DW.exit ?_
    refine DW.seq ?_
    refine DW.reg (by simp; rfl) ?_
    refine DW.ret ?_
    simp [Tryz.results241]
theorem toResult_spec (a : Result) (h : Row.sz a ≤ 2 ^ 36) : Spec Tryz.prog 206 [raResult a] [some 5] (Result.d a) [raResult a] := by
  refine Spec.intro Tryz.func206 rfl rfl Tryz.ntmps206 rfl (by simp) ?_
  have hz := Result_sz a
  refine DW.seq ?_
  refine DW.reg (by simp; rfl) ?_
  refine DW.seq ?_
  refine DW.reg (by simp; rfl) ?_
  refine DW.seq ?_
  refine DW.reg (by simp; rfl) ?_
  refine DW.seq ?_
  refine DW.reg (by simp; rfl) ?_
  refine DW.seq ?_
  refine DW.reg (by simp; rfl) ?_
  refine DW.seq ?_
  refine DW.reg (by simp; rfl) ?_
  refine DW.seq ?_
  refine DW.regs ?_
  refine RegO.opN 2 (by simp; rfl) ?_
  refine RegO.step rfl (OpStep.callA rfl (by simp; exact ⟨rfl, rfl⟩) (by simp; rfl) (by exact toStringS_spec _ (by omega)) (by simp) (by simp; rfl)) ?_
  refine RegO.opN 2 (by simp; rfl) ?_
  refine RegO.nil ?_
  refine DW.seq ?_
  refine DW.reg (by simp; rfl) ?_
  refine DW.ret ?_
  simp [Tryz.results206]
theorem toStep_spec (a : Step) (h : Row.sz a ≤ 2 ^ 36) : Spec Tryz.prog 242 [raStep a] [some 3] (Step.d a) [raStep a] := by
  refine Spec.intro Tryz.func242 rfl rfl Tryz.ntmps242 rfl (by simp) ?_
  have hz := Step_sz a
  refine DW.seq ?_
  refine DW.reg (by simp; rfl) ?_
  refine DW.seq ?_
  refine DW.reg (by simp; rfl) ?_
  refine DW.seq ?_
  refine DW.reg (by simp; rfl) ?_
  refine DW.seq ?_
  refine DW.reg (by simp; rfl) ?_
  refine DW.seq ?_
  refine DW.reg (by simp; rfl) ?_
  refine DW.seq ?_
  refine DW.reg (by simp; rfl) ?_
  refine DW.ret ?_
  simp [Tryz.results242]
theorem toStepS_spec (l : List Step) (h : szL l ≤ 2 ^ 36) : Spec Tryz.prog 207 [ra l] [none] [dr l] [ra l] := by
  refine Spec.intro Tryz.func207 rfl rfl Tryz.ntmps207 rfl (by simp) ?_
  have hll := szL_len l
  have hb1 : (32 : Int) * l.length ≤ 281474976710656 := by omega
  have hb2 : (l.length : Int) ≤ 281474976710656 := by omega
  refine DW.seq ?_
  refine DW.reg (by simp; rfl) ?_
  refine DW.seq ?_
  refine DW.reg (by simp [hb1, hb2]; rfl) ?_
  refine DW.seq ?_
  refine DW.seq ?_
  refine DW.reg (by simp; rfl) ?_
  refine DW.block ?_
  refine DW.loopS (α := Nat) (fun i => i ≤ l.length) (fun i => l.length - i) (fun i => [(4, vi i)]) (fun i => [(7, .ow () 3 l.length (rD (l.take i) ++ (List.replicate (l.length - i) ([.sc (.int .i64 0), .sc (.int .i64 0), .sc (.string ByteArray.empty)] : List D)).flatten))]) [(0, _), (3, _)] [] [] 0 (by simp) (by simp; exact ⟨rfl, rfl⟩) (by simp) (by simp) (by rfl) ?_
  intro i hi
  refine DW.seq ?_
  refine DW.seq ?_
  refine DW.reg (by simp; rfl) ?_
  refine DW.condB (by simp; exact rfl) (fun hc0 => ?_) (fun hc0 => ?_)
  · have hlt : i < l.length := by simpa using hc0
    have hd := rR_drop_Step l i hlt
    have hs := szL_at l i hlt
    have hlt' : (i : Int) < l.length := by omega
    have w1 : IntKind.i64.wrap ((i : Int) + 1) = ((i + 1 : Nat) : Int) := (wr _ (by omega) (by omega)).trans (by omega)
    have hA : (rD (l.take i)).length = i * 3 := by rw [rD_len_Step, List.length_take, Nat.min_eq_left (by omega)]
    have hz1 : (List.replicate (l.length - i) ([.sc (.int .i64 0), .sc (.int .i64 0), .sc (.string ByteArray.empty)] : List D)).flatten = [.sc (.int .i64 0), .sc (.int .i64 0), .sc (.string ByteArray.empty)] ++ (List.replicate (l.length - (i + 1)) ([.sc (.int .i64 0), .sc (.int .i64 0), .sc (.string ByteArray.empty)] : List D)).flatten := by rw [show l.length - i = (l.length - (i + 1)) + 1 by omega, List.replicate_succ, List.flatten_cons]
    have hz2 : rD (l.take (i + 1)) = rD (l.take i) ++ Row.d l[i] := by rw [take_succ' l i hlt, rD_append]; simp [rD]
    simp only [Row.d] at hz2
    generalize l[i] = c at hd hs hz2
    refine DW.skip ?_
    refine DW.seq ?_
    refine DW.block ?_
    refine DW.regs ?_
    refine RegO.opN 6 (by simp [hd, hlt', hz1, app_get hA, app_get0 hA, app_set hA, app_set0 hA, Nat.add_assoc]; rfl) ?_
    refine RegO.step rfl (OpStep.callA rfl (by simp [hd, hlt', hz1, app_get hA, app_get0 hA, app_set hA, app_set0 hA, Nat.add_assoc]; exact ⟨rfl, rfl⟩) (by simp [hd, hlt', hz1, app_get hA, app_get0 hA, app_set hA, app_set0 hA, Nat.add_assoc]; rfl) (by exact toStep_spec _ (by omega)) (by simp) (by simp [hd, hlt', hz1, app_get hA, app_get0 hA, app_set hA, app_set0 hA, Nat.add_assoc]; rfl)) ?_
    refine RegO.opN 2 (by simp [hd, hlt', hz1, app_get hA, app_get0 hA, app_set hA, app_set0 hA, Nat.add_assoc]; rfl) ?_
    refine RegO.nil ?_
    refine DW.reg (by simp [w1]; rfl) ?_
    exact ⟨i + 1, hlt, by omega, by simp, by simp [hz2], by simp, by rfl⟩
  · have hil : i = l.length := by
      have : ¬ i < l.length := by simpa using hc0
      omega
    subst hil
    refine DW.exit ?_
    refine DW.seq ?_
    refine DW.reg (by simp; rfl) ?_
    refine DW.ret ?_
    simp [Tryz.results207]
theorem toSealing_spec (a : Sealing) (h : Row.sz a ≤ 2 ^ 36) : Spec Tryz.prog 157 [raSealing a] [some 3] (Sealing.d a) [raSealing a] := by
  refine Spec.intro Tryz.func157 rfl rfl Tryz.ntmps157 rfl (by simp) ?_
  have hz := Sealing_sz a
  refine DW.seq ?_
  refine DW.reg (by simp; rfl) ?_
  refine DW.seq ?_
  refine DW.reg (by simp; rfl) ?_
  refine DW.seq ?_
  refine DW.reg (by simp; rfl) ?_
  refine DW.seq ?_
  refine DW.reg (by simp; rfl) ?_
  refine DW.seq ?_
  refine DW.reg (by simp; rfl) ?_
  refine DW.seq ?_
  refine DW.reg (by simp; rfl) ?_
  refine DW.ret ?_
  simp [Tryz.results157]
theorem toSealingS_spec (l : List Sealing) (h : szL l ≤ 2 ^ 36) : Spec Tryz.prog 106 [ra l] [none] [dr l] [ra l] := by
  refine Spec.intro Tryz.func106 rfl rfl Tryz.ntmps106 rfl (by simp) ?_
  have hll := szL_len l
  have hb1 : (48 : Int) * l.length ≤ 281474976710656 := by omega
  have hb2 : (l.length : Int) ≤ 281474976710656 := by omega
  refine DW.seq ?_
  refine DW.reg (by simp; rfl) ?_
  refine DW.seq ?_
  refine DW.reg (by simp [hb1, hb2]; rfl) ?_
  refine DW.seq ?_
  refine DW.seq ?_
  refine DW.reg (by simp; rfl) ?_
  refine DW.block ?_
  refine DW.loopS (α := Nat) (fun i => i ≤ l.length) (fun i => l.length - i) (fun i => [(4, vi i)]) (fun i => [(7, .ow () 3 l.length (rD (l.take i) ++ (List.replicate (l.length - i) ([.sc (.string ByteArray.empty), .sc (.string ByteArray.empty), .sc (.string ByteArray.empty)] : List D)).flatten))]) [(0, _), (3, _)] [] [] 0 (by simp) (by simp; exact ⟨rfl, rfl⟩) (by simp) (by simp) (by rfl) ?_
  intro i hi
  refine DW.seq ?_
  refine DW.seq ?_
  refine DW.reg (by simp; rfl) ?_
  refine DW.condB (by simp; exact rfl) (fun hc0 => ?_) (fun hc0 => ?_)
  · have hlt : i < l.length := by simpa using hc0
    have hd := rR_drop_Sealing l i hlt
    have hs := szL_at l i hlt
    have hlt' : (i : Int) < l.length := by omega
    have w1 : IntKind.i64.wrap ((i : Int) + 1) = ((i + 1 : Nat) : Int) := (wr _ (by omega) (by omega)).trans (by omega)
    have hA : (rD (l.take i)).length = i * 3 := by rw [rD_len_Sealing, List.length_take, Nat.min_eq_left (by omega)]
    have hz1 : (List.replicate (l.length - i) ([.sc (.string ByteArray.empty), .sc (.string ByteArray.empty), .sc (.string ByteArray.empty)] : List D)).flatten = [.sc (.string ByteArray.empty), .sc (.string ByteArray.empty), .sc (.string ByteArray.empty)] ++ (List.replicate (l.length - (i + 1)) ([.sc (.string ByteArray.empty), .sc (.string ByteArray.empty), .sc (.string ByteArray.empty)] : List D)).flatten := by rw [show l.length - i = (l.length - (i + 1)) + 1 by omega, List.replicate_succ, List.flatten_cons]
    have hz2 : rD (l.take (i + 1)) = rD (l.take i) ++ Row.d l[i] := by rw [take_succ' l i hlt, rD_append]; simp [rD]
    simp only [Row.d] at hz2
    generalize l[i] = c at hd hs hz2
    refine DW.skip ?_
    refine DW.seq ?_
    refine DW.block ?_
    refine DW.regs ?_
    refine RegO.opN 6 (by simp [hd, hlt', hz1, app_get hA, app_get0 hA, app_set hA, app_set0 hA, Nat.add_assoc]; rfl) ?_
    refine RegO.step rfl (OpStep.callA rfl (by simp [hd, hlt', hz1, app_get hA, app_get0 hA, app_set hA, app_set0 hA, Nat.add_assoc]; exact ⟨rfl, rfl⟩) (by simp [hd, hlt', hz1, app_get hA, app_get0 hA, app_set hA, app_set0 hA, Nat.add_assoc]; rfl) (by exact toSealing_spec _ (by omega)) (by simp) (by simp [hd, hlt', hz1, app_get hA, app_get0 hA, app_set hA, app_set0 hA, Nat.add_assoc]; rfl)) ?_
    refine RegO.opN 2 (by simp [hd, hlt', hz1, app_get hA, app_get0 hA, app_set hA, app_set0 hA, Nat.add_assoc]; rfl) ?_
    refine RegO.nil ?_
    refine DW.reg (by simp [w1]; rfl) ?_
    exact ⟨i + 1, hlt, by omega, by simp, by simp [hz2], by simp, by rfl⟩
  · have hil : i = l.length := by
      have : ¬ i < l.length := by simpa using hc0
      omega
    subst hil
    refine DW.exit ?_
    refine DW.seq ?_
    refine DW.reg (by simp; rfl) ?_
    refine DW.ret ?_
    simp [Tryz.results106]
theorem toJob_spec (a : Job) (h : Row.sz a ≤ 2 ^ 36) : Spec Tryz.prog 156 [raJob a] [some 16] (Job.d a) [raJob a] := by
  refine Spec.intro Tryz.func156 rfl rfl Tryz.ntmps156 rfl (by simp) ?_
  have hz := Job_sz a
  refine DW.seq ?_
  refine DW.reg (by simp; rfl) ?_
  refine DW.seq ?_
  refine DW.reg (by simp; rfl) ?_
  refine DW.seq ?_
  refine DW.regs ?_
  refine RegO.opN 2 (by simp; rfl) ?_
  refine RegO.step rfl (OpStep.callA rfl (by simp; exact ⟨rfl, rfl⟩) (by simp; rfl) (by exact toAsk_spec _ (by omega)) (by simp) (by simp; rfl)) ?_
  refine RegO.opN 2 (by simp; rfl) ?_
  refine RegO.nil ?_
  refine DW.seq ?_
  refine DW.regs ?_
  refine RegO.opN 2 (by simp; rfl) ?_
  refine RegO.step rfl (OpStep.callA rfl (by simp; exact ⟨rfl, rfl⟩) (by simp; rfl) (by exact toResult_spec _ (by omega)) (by simp) (by simp; rfl)) ?_
  refine RegO.opN 2 (by simp; rfl) ?_
  refine RegO.nil ?_
  refine DW.seq ?_
  refine DW.regs ?_
  refine RegO.opN 2 (by simp; rfl) ?_
  refine RegO.step rfl (OpStep.callA rfl (by simp; exact ⟨rfl, rfl⟩) (by simp; rfl) (by exact toStepS_spec _ (by omega)) (by simp) (by simp; rfl)) ?_
  refine RegO.opN 2 (by simp; rfl) ?_
  refine RegO.nil ?_
  refine DW.seq ?_
  refine DW.regs ?_
  refine RegO.opN 2 (by simp; rfl) ?_
  refine RegO.step rfl (OpStep.callA rfl (by simp; exact ⟨rfl, rfl⟩) (by simp; rfl) (by exact toSealingS_spec _ (by omega)) (by simp) (by simp; rfl)) ?_
  refine RegO.opN 2 (by simp; rfl) ?_
  refine RegO.nil ?_
  refine DW.seq ?_
  refine DW.reg (by simp; rfl) ?_
  refine DW.seq ?_
  refine DW.reg (by simp; rfl) ?_
  refine DW.seq ?_
  refine DW.reg (by simp; rfl) ?_
  refine DW.seq ?_
  refine DW.reg (by simp; rfl) ?_
  refine DW.ret ?_
  simp [Tryz.results156]
theorem toJobS_spec (l : List Job) (h : szL l ≤ 2 ^ 36) : Spec Tryz.prog 105 [ra l] [none] [dr l] [ra l] := by
  refine Spec.intro Tryz.func105 rfl rfl Tryz.ntmps105 rfl (by simp) ?_
  have hll := szL_len l
  have hb1 : (200 : Int) * l.length ≤ 281474976710656 := by omega
  have hb2 : (l.length : Int) ≤ 281474976710656 := by omega
  refine DW.seq ?_
  refine DW.reg (by simp; rfl) ?_
  refine DW.seq ?_
  refine DW.reg (by simp [hb1, hb2]; rfl) ?_
  refine DW.seq ?_
  refine DW.seq ?_
  refine DW.reg (by simp; rfl) ?_
  refine DW.block ?_
  refine DW.loopS (α := Nat) (fun i => i ≤ l.length) (fun i => l.length - i) (fun i => [(4, vi i)]) (fun i => [(7, .ow () 16 l.length (rD (l.take i) ++ (List.replicate (l.length - i) ([.sc (.int .i64 0), .sc (.string ByteArray.empty), .sc (.string ByteArray.empty), .sc (.int .i64 0), .sc (.int .i64 0), .sc (.string ByteArray.empty), .sc (.int .i64 0), .sc (.string ByteArray.empty), .sc (.int .i64 0), .sc (.bool false), .ow () 0 0 [], .ow () 0 0 [], .ow () 0 0 [], .sc (.int .i64 0), .sc (.bool false), .sc (.bool false)] : List D)).flatten))]) [(0, _), (3, _)] [] [] 0 (by simp) (by simp; exact ⟨rfl, rfl⟩) (by simp) (by simp) (by rfl) ?_
  intro i hi
  refine DW.seq ?_
  refine DW.seq ?_
  refine DW.reg (by simp; rfl) ?_
  refine DW.condB (by simp; exact rfl) (fun hc0 => ?_) (fun hc0 => ?_)
  · have hlt : i < l.length := by simpa using hc0
    have hd := rR_drop_Job l i hlt
    have hs := szL_at l i hlt
    have hlt' : (i : Int) < l.length := by omega
    have w1 : IntKind.i64.wrap ((i : Int) + 1) = ((i + 1 : Nat) : Int) := (wr _ (by omega) (by omega)).trans (by omega)
    have hA : (rD (l.take i)).length = i * 16 := by rw [rD_len_Job, List.length_take, Nat.min_eq_left (by omega)]
    have hz1 : (List.replicate (l.length - i) ([.sc (.int .i64 0), .sc (.string ByteArray.empty), .sc (.string ByteArray.empty), .sc (.int .i64 0), .sc (.int .i64 0), .sc (.string ByteArray.empty), .sc (.int .i64 0), .sc (.string ByteArray.empty), .sc (.int .i64 0), .sc (.bool false), .ow () 0 0 [], .ow () 0 0 [], .ow () 0 0 [], .sc (.int .i64 0), .sc (.bool false), .sc (.bool false)] : List D)).flatten = [.sc (.int .i64 0), .sc (.string ByteArray.empty), .sc (.string ByteArray.empty), .sc (.int .i64 0), .sc (.int .i64 0), .sc (.string ByteArray.empty), .sc (.int .i64 0), .sc (.string ByteArray.empty), .sc (.int .i64 0), .sc (.bool false), .ow () 0 0 [], .ow () 0 0 [], .ow () 0 0 [], .sc (.int .i64 0), .sc (.bool false), .sc (.bool false)] ++ (List.replicate (l.length - (i + 1)) ([.sc (.int .i64 0), .sc (.string ByteArray.empty), .sc (.string ByteArray.empty), .sc (.int .i64 0), .sc (.int .i64 0), .sc (.string ByteArray.empty), .sc (.int .i64 0), .sc (.string ByteArray.empty), .sc (.int .i64 0), .sc (.bool false), .ow () 0 0 [], .ow () 0 0 [], .ow () 0 0 [], .sc (.int .i64 0), .sc (.bool false), .sc (.bool false)] : List D)).flatten := by rw [show l.length - i = (l.length - (i + 1)) + 1 by omega, List.replicate_succ, List.flatten_cons]
    have hz2 : rD (l.take (i + 1)) = rD (l.take i) ++ Row.d l[i] := by rw [take_succ' l i hlt, rD_append]; simp [rD]
    simp only [Row.d] at hz2
    generalize l[i] = c at hd hs hz2
    refine DW.skip ?_
    refine DW.seq ?_
    refine DW.block ?_
    refine DW.regs ?_
    refine RegO.opN 6 (by simp [hd, hlt', hz1, app_get hA, app_get0 hA, app_set hA, app_set0 hA, Nat.add_assoc]; rfl) ?_
    refine RegO.step rfl (OpStep.callA rfl (by simp [hd, hlt', hz1, app_get hA, app_get0 hA, app_set hA, app_set0 hA, Nat.add_assoc]; exact ⟨rfl, rfl⟩) (by simp [hd, hlt', hz1, app_get hA, app_get0 hA, app_set hA, app_set0 hA, Nat.add_assoc]; rfl) (by exact toJob_spec _ (by omega)) (by simp) (by simp [hd, hlt', hz1, app_get hA, app_get0 hA, app_set hA, app_set0 hA, Nat.add_assoc]; rfl)) ?_
    refine RegO.opN 2 (by simp [hd, hlt', hz1, app_get hA, app_get0 hA, app_set hA, app_set0 hA, Nat.add_assoc]; rfl) ?_
    refine RegO.nil ?_
    refine DW.reg (by simp [w1]; rfl) ?_
    exact ⟨i + 1, hlt, by omega, by simp, by simp [hz2], by simp, by rfl⟩
  · have hil : i = l.length := by
      have : ¬ i < l.length := by simpa using hc0
      omega
    subst hil
    refine DW.exit ?_
    refine DW.seq ?_
    refine DW.reg (by simp; rfl) ?_
    refine DW.ret ?_
    simp [Tryz.results105]
theorem toSystem_spec (a : System) (h : Row.sz a ≤ 2 ^ 36) : Spec Tryz.prog 36 [raSystem a] [some 8] (System.d a) [raSystem a] := by
  refine Spec.intro Tryz.func36 rfl rfl Tryz.ntmps36 rfl (by simp) ?_
  have hz := System_sz a
  refine DW.seq ?_
  refine DW.reg (by simp; rfl) ?_
  refine DW.seq ?_
  refine DW.reg (by simp; rfl) ?_
  refine DW.seq ?_
  refine DW.regs ?_
  refine RegO.opN 2 (by simp; rfl) ?_
  refine RegO.step rfl (OpStep.callA rfl (by simp; exact ⟨rfl, rfl⟩) (by simp; rfl) (by exact toGeo_spec _ (by omega)) (by simp) (by simp; rfl)) ?_
  refine RegO.opN 2 (by simp; rfl) ?_
  refine RegO.nil ?_
  refine DW.seq ?_
  refine DW.regs ?_
  refine RegO.opN 2 (by simp; rfl) ?_
  refine RegO.step rfl (OpStep.callA rfl (by simp; exact ⟨rfl, rfl⟩) (by simp; rfl) (by exact toMemory_spec _ (by omega)) (by simp) (by simp; rfl)) ?_
  refine RegO.opN 2 (by simp; rfl) ?_
  refine RegO.nil ?_
  refine DW.seq ?_
  refine DW.regs ?_
  refine RegO.opN 2 (by simp; rfl) ?_
  refine RegO.step rfl (OpStep.callA rfl (by simp; exact ⟨rfl, rfl⟩) (by simp; rfl) (by exact toJobS_spec _ (by omega)) (by simp) (by simp; rfl)) ?_
  refine RegO.opN 2 (by simp; rfl) ?_
  refine RegO.nil ?_
  refine DW.seq ?_
  refine DW.regs ?_
  refine RegO.opN 2 (by simp; rfl) ?_
  refine RegO.step rfl (OpStep.callA rfl (by simp; exact ⟨rfl, rfl⟩) (by simp; rfl) (by exact toSealingS_spec _ (by omega)) (by simp) (by simp; rfl)) ?_
  refine RegO.opN 2 (by simp; rfl) ?_
  refine RegO.nil ?_
  refine DW.seq ?_
  refine DW.reg (by simp; rfl) ?_
  refine DW.ret ?_
  simp [Tryz.results36]
theorem eqGeo_spec (a : Geo) (h : Row.sz a ≤ 2 ^ 36) : Spec Tryz.prog 87 [raGeo a, raGeo a] [none] [db true] [raGeo a, raGeo a] := by
  refine Spec.intro Tryz.func87 rfl rfl Tryz.ntmps87 rfl (by simp) ?_
  have hz := Geo_sz a
  refine DW.seq ?_
  refine DW.reg (by simp; rfl) ?_
  refine DW.seq ?_
  refine DW.seq ?_
  refine DW.reg (by simp; rfl) ?_
  refine DW.condF (by simp) ?_
  refine DW.skip ?_
  refine DW.seq ?_
  refine DW.seq ?_
  refine DW.reg (by simp; rfl) ?_
  refine DW.condF (by simp) ?_
  refine DW.skip ?_
  refine DW.seq ?_
  refine DW.seq ?_
  refine DW.reg (by simp; rfl) ?_
  refine DW.condF (by simp) ?_
  refine DW.skip ?_
  refine DW.seq ?_
  refine DW.seq ?_
  refine DW.reg (by simp; rfl) ?_
  refine DW.condF (by simp) ?_
  refine DW.skip ?_
  refine DW.seq ?_
  refine DW.reg (by simp; rfl) ?_
  refine DW.ret ?_
  simp [Tryz.results87]
theorem eqCell_spec (a : Cell) (h : Row.sz a ≤ 2 ^ 36) : Spec Tryz.prog 142 [raCell a, raCell a] [none] [db true] [raCell a, raCell a] := by
  refine Spec.intro Tryz.func142 rfl rfl Tryz.ntmps142 rfl (by simp) ?_
  have hz := Cell_sz a
  refine DW.seq ?_
  refine DW.reg (by simp; rfl) ?_
  refine DW.seq ?_
  refine DW.seq ?_
  refine DW.reg (by simp; rfl) ?_
  refine DW.condF (by simp) ?_
  refine DW.skip ?_
  refine DW.seq ?_
  refine DW.seq ?_
  refine DW.reg (by simp; rfl) ?_
  refine DW.condF (by simp) ?_
  refine DW.skip ?_
  refine DW.seq ?_
  refine DW.seq ?_
  refine DW.reg (by simp; rfl) ?_
  refine DW.condF (by simp) ?_
  refine DW.skip ?_
  refine DW.seq ?_
  refine DW.reg (by simp; rfl) ?_
  refine DW.ret ?_
  simp [Tryz.results142]
theorem eqCellS_spec (l : List Cell) (h : szL l ≤ 2 ^ 36) : Spec Tryz.prog 84 [ra l, ra l] [none] [db true] [ra l, ra l] := by
  refine Spec.intro Tryz.func84 rfl rfl Tryz.ntmps84 rfl (by simp) ?_
  have hll := szL_len l
  refine DW.seq ?_
  refine DW.reg (by simp; rfl) ?_
  refine DW.seq ?_
  refine DW.seq ?_
  refine DW.reg (by simp; rfl) ?_
  refine DW.condF (by simp) ?_
  refine DW.skip ?_
  refine DW.seq ?_
  refine DW.seq ?_
  refine DW.reg (by simp; rfl) ?_
  refine DW.block ?_
  refine DW.loopS (α := Nat) (fun i => i ≤ l.length) (fun i => l.length - i) (fun i => [(5, vi i)]) (fun i => []) [(0, _), (1, _)] [] [] 0 (by simp) (by simp; exact ⟨rfl, rfl⟩) (by simp) (by simp) (by rfl) ?_
  intro i hi
  refine DW.seq ?_
  refine DW.seq ?_
  refine DW.reg (by simp; rfl) ?_
  refine DW.condB (by simp; exact rfl) (fun hc1 => ?_) (fun hc1 => ?_)
  · have hlt : i < l.length := by simpa using hc1
    have hd := rR_drop_Cell l i hlt
    have hs := szL_at l i hlt
    have hlt' : (i : Int) < l.length := by omega
    have w1 : IntKind.i64.wrap ((i : Int) + 1) = ((i + 1 : Nat) : Int) := (wr _ (by omega) (by omega)).trans (by omega)
    generalize l[i] = c at hd hs
    refine DW.skip ?_
    refine DW.seq ?_
    refine DW.block ?_
    refine DW.seq ?_
    refine DW.drawn mixed (by kernel_rfl) ?_
    refine RegD.addN 8 (by simp [hd, hlt']; (first | done | exact ⟨rfl, rfl⟩ | rfl)) ?_
    refine RegD.cert (Cert.callA rfl (by simp) rfl (by decide) (by simp [hd, hlt']; exact ⟨rfl, rfl⟩) (by simp [hd, hlt']; rfl) (by exact eqCell_spec _ (by omega)) rfl (by simp) (by simp; rfl) rfl) ?_
    refine RegD.addN 1 (by simp [hd, hlt']; (first | done | exact ⟨rfl, rfl⟩ | rfl)) ?_
    refine RegD.nil ⟨by kernel_rfl, ?_⟩
    refine DW.condF (by simp) ?_
    refine DW.skip ?_
    refine DW.reg (by simp [w1]; rfl) ?_
    exact ⟨i + 1, hlt, by omega, by simp, by simp, by simp, by rfl⟩
  · refine DW.exit ?_
    refine DW.seq ?_
    refine DW.reg (by simp; rfl) ?_
    refine DW.ret ?_
    simp [Tryz.results84]
theorem eqMemory_spec (a : Memory) (h : Row.sz a ≤ 2 ^ 36) : Spec Tryz.prog 21 [raMemory a, raMemory a] [none] [db true] [raMemory a, raMemory a] := by
  refine Spec.intro Tryz.func21 rfl rfl Tryz.ntmps21 rfl (by simp) ?_
  have hz := Memory_sz a
  refine DW.seq ?_
  refine DW.reg (by simp; rfl) ?_
  refine DW.seq ?_
  refine DW.seq ?_
  refine DW.reg (by simp; rfl) ?_
  refine DW.condF (by simp) ?_
  refine DW.skip ?_
  refine DW.seq ?_
  refine DW.seq ?_
  refine DW.regs ?_
  refine RegO.opN 4 (by simp; rfl) ?_
  refine RegO.step rfl (OpStep.callA rfl (by simp; exact ⟨rfl, rfl⟩) (by simp; rfl) (by exact eqCellS_spec _ (by omega)) (by simp) (by simp; rfl)) ?_
  refine RegO.opN 1 (by simp; rfl) ?_
  refine RegO.nil ?_
  refine DW.condF (by simp) ?_
  refine DW.skip ?_
  refine DW.seq ?_
  refine DW.reg (by simp; rfl) ?_
  refine DW.ret ?_
  simp [Tryz.results21]
theorem eqAsk_spec (a : Ask) (h : Row.sz a ≤ 2 ^ 36) : Spec Tryz.prog 193 [raAsk a, raAsk a] [none] [db true] [raAsk a, raAsk a] := by
  refine Spec.intro Tryz.func193 rfl rfl Tryz.ntmps193 rfl (by simp) ?_
  have hz := Ask_sz a
  refine DW.seq ?_
  refine DW.reg (by simp; rfl) ?_
  refine DW.seq ?_
  refine DW.seq ?_
  refine DW.reg (by simp; rfl) ?_
  refine DW.condF (by simp) ?_
  refine DW.skip ?_
  refine DW.seq ?_
  refine DW.seq ?_
  refine DW.reg (by simp; rfl) ?_
  refine DW.condF (by simp) ?_
  refine DW.skip ?_
  refine DW.seq ?_
  refine DW.seq ?_
  refine DW.reg (by simp; rfl) ?_
  refine DW.condF (by simp) ?_
  refine DW.skip ?_
  refine DW.seq ?_
  refine DW.seq ?_
  refine DW.reg (by simp; rfl) ?_
  refine DW.condF (by simp) ?_
  refine DW.skip ?_
  refine DW.seq ?_
  refine DW.seq ?_
  refine DW.reg (by simp; rfl) ?_
  refine DW.condF (by simp) ?_
  refine DW.skip ?_
  refine DW.seq ?_
  refine DW.seq ?_
  refine DW.reg (by simp; rfl) ?_
  refine DW.condF (by simp) ?_
  refine DW.skip ?_
  refine DW.seq ?_
  refine DW.reg (by simp; rfl) ?_
  refine DW.ret ?_
  simp [Tryz.results193]
theorem eqStringS_spec (l : List ByteArray) (h : szL l ≤ 2 ^ 36) : Spec Tryz.prog 110 [ra l, ra l] [none] [db true] [ra l, ra l] := by
  refine Spec.intro Tryz.func110 rfl rfl Tryz.ntmps110 rfl (by simp) ?_
  have hll := szL_len l
  refine DW.seq ?_
  refine DW.reg (by simp; rfl) ?_
  refine DW.seq ?_
  refine DW.seq ?_
  refine DW.reg (by simp; rfl) ?_
  refine DW.condF (by simp) ?_
  refine DW.skip ?_
  refine DW.seq ?_
  refine DW.seq ?_
  refine DW.reg (by simp; rfl) ?_
  refine DW.block ?_
  refine DW.loopS (α := Nat) (fun i => i ≤ l.length) (fun i => l.length - i) (fun i => [(5, vi i)]) (fun i => []) [(0, _), (1, _)] [] [] 0 (by simp) (by simp; exact ⟨rfl, rfl⟩) (by simp) (by simp) (by rfl) ?_
  intro i hi
  refine DW.seq ?_
  refine DW.seq ?_
  refine DW.reg (by simp; rfl) ?_
  refine DW.condB (by simp; exact rfl) (fun hc1 => ?_) (fun hc1 => ?_)
  · have hlt : i < l.length := by simpa using hc1
    have hd := rR_get_ByteArray l i hlt
    have hs := szL_at l i hlt
    have hlt' : (i : Int) < l.length := by omega
    have w1 : IntKind.i64.wrap ((i : Int) + 1) = ((i + 1 : Nat) : Int) := (wr _ (by omega) (by omega)).trans (by omega)
    generalize l[i] = c at hd hs
    refine DW.skip ?_
    refine DW.seq ?_
    refine DW.block ?_
    refine DW.seq ?_
    refine DW.drawn mixed (by kernel_rfl) ?_
    refine RegD.addN 9 (by simp [hd, hlt']; (first | done | exact ⟨rfl, rfl⟩ | rfl)) ?_
    refine RegD.nil ⟨by kernel_rfl, ?_⟩
    refine DW.condF (by simp) ?_
    refine DW.skip ?_
    refine DW.reg (by simp [w1]; rfl) ?_
    exact ⟨i + 1, hlt, by omega, by simp, by simp, by simp, by rfl⟩
  · refine DW.exit ?_
    refine DW.seq ?_
    refine DW.reg (by simp; rfl) ?_
    refine DW.ret ?_
    simp [Tryz.results110]
theorem eqResult_spec (a : Result) (h : Row.sz a ≤ 2 ^ 36) : Spec Tryz.prog 38 [raResult a, raResult a] [none] [db true] [raResult a, raResult a] := by
  refine Spec.intro Tryz.func38 rfl rfl Tryz.ntmps38 rfl (by simp) ?_
  have hz := Result_sz a
  refine DW.seq ?_
  refine DW.reg (by simp; rfl) ?_
  refine DW.seq ?_
  refine DW.seq ?_
  refine DW.reg (by simp; rfl) ?_
  refine DW.condF (by simp) ?_
  refine DW.skip ?_
  refine DW.seq ?_
  refine DW.seq ?_
  refine DW.reg (by simp; rfl) ?_
  refine DW.condF (by simp) ?_
  refine DW.skip ?_
  refine DW.seq ?_
  refine DW.seq ?_
  refine DW.reg (by simp; rfl) ?_
  refine DW.condF (by simp) ?_
  refine DW.skip ?_
  refine DW.seq ?_
  refine DW.seq ?_
  refine DW.reg (by simp; rfl) ?_
  refine DW.condF (by simp) ?_
  refine DW.skip ?_
  refine DW.seq ?_
  refine DW.seq ?_
  refine DW.regs ?_
  refine RegO.opN 4 (by simp; rfl) ?_
  refine RegO.step rfl (OpStep.callA rfl (by simp; exact ⟨rfl, rfl⟩) (by simp; rfl) (by exact eqStringS_spec _ (by omega)) (by simp) (by simp; rfl)) ?_
  refine RegO.opN 1 (by simp; rfl) ?_
  refine RegO.nil ?_
  refine DW.condF (by simp) ?_
  refine DW.skip ?_
  refine DW.seq ?_
  refine DW.reg (by simp; rfl) ?_
  refine DW.ret ?_
  simp [Tryz.results38]
theorem eqStep_spec (a : Step) (h : Row.sz a ≤ 2 ^ 36) : Spec Tryz.prog 66 [raStep a, raStep a] [none] [db true] [raStep a, raStep a] := by
  refine Spec.intro Tryz.func66 rfl rfl Tryz.ntmps66 rfl (by simp) ?_
  have hz := Step_sz a
  refine DW.seq ?_
  refine DW.reg (by simp; rfl) ?_
  refine DW.seq ?_
  refine DW.seq ?_
  refine DW.reg (by simp; rfl) ?_
  refine DW.condF (by simp) ?_
  refine DW.skip ?_
  refine DW.seq ?_
  refine DW.seq ?_
  refine DW.reg (by simp; rfl) ?_
  refine DW.condF (by simp) ?_
  refine DW.skip ?_
  refine DW.seq ?_
  refine DW.seq ?_
  refine DW.reg (by simp; rfl) ?_
  refine DW.condF (by simp) ?_
  refine DW.skip ?_
  refine DW.seq ?_
  refine DW.reg (by simp; rfl) ?_
  refine DW.ret ?_
  simp [Tryz.results66]
theorem eqStepS_spec (l : List Step) (h : szL l ≤ 2 ^ 36) : Spec Tryz.prog 14 [ra l, ra l] [none] [db true] [ra l, ra l] := by
  refine Spec.intro Tryz.func14 rfl rfl Tryz.ntmps14 rfl (by simp) ?_
  have hll := szL_len l
  refine DW.seq ?_
  refine DW.reg (by simp; rfl) ?_
  refine DW.seq ?_
  refine DW.seq ?_
  refine DW.reg (by simp; rfl) ?_
  refine DW.condF (by simp) ?_
  refine DW.skip ?_
  refine DW.seq ?_
  refine DW.seq ?_
  refine DW.reg (by simp; rfl) ?_
  refine DW.block ?_
  refine DW.loopS (α := Nat) (fun i => i ≤ l.length) (fun i => l.length - i) (fun i => [(5, vi i)]) (fun i => []) [(0, _), (1, _)] [] [] 0 (by simp) (by simp; exact ⟨rfl, rfl⟩) (by simp) (by simp) (by rfl) ?_
  intro i hi
  refine DW.seq ?_
  refine DW.seq ?_
  refine DW.reg (by simp; rfl) ?_
  refine DW.condB (by simp; exact rfl) (fun hc1 => ?_) (fun hc1 => ?_)
  · have hlt : i < l.length := by simpa using hc1
    have hd := rR_drop_Step l i hlt
    have hs := szL_at l i hlt
    have hlt' : (i : Int) < l.length := by omega
    have w1 : IntKind.i64.wrap ((i : Int) + 1) = ((i + 1 : Nat) : Int) := (wr _ (by omega) (by omega)).trans (by omega)
    generalize l[i] = c at hd hs
    refine DW.skip ?_
    refine DW.seq ?_
    refine DW.block ?_
    refine DW.seq ?_
    refine DW.drawn mixed (by kernel_rfl) ?_
    refine RegD.addN 8 (by simp [hd, hlt']; (first | done | exact ⟨rfl, rfl⟩ | rfl)) ?_
    refine RegD.cert (Cert.callA rfl (by simp) rfl (by decide) (by simp [hd, hlt']; exact ⟨rfl, rfl⟩) (by simp [hd, hlt']; rfl) (by exact eqStep_spec _ (by omega)) rfl (by simp) (by simp; rfl) rfl) ?_
    refine RegD.addN 1 (by simp [hd, hlt']; (first | done | exact ⟨rfl, rfl⟩ | rfl)) ?_
    refine RegD.nil ⟨by kernel_rfl, ?_⟩
    refine DW.condF (by simp) ?_
    refine DW.skip ?_
    refine DW.reg (by simp [w1]; rfl) ?_
    exact ⟨i + 1, hlt, by omega, by simp, by simp, by simp, by rfl⟩
  · refine DW.exit ?_
    refine DW.seq ?_
    refine DW.reg (by simp; rfl) ?_
    refine DW.ret ?_
    simp [Tryz.results14]
theorem eqSealing_spec (a : Sealing) (h : Row.sz a ≤ 2 ^ 36) : Spec Tryz.prog 144 [raSealing a, raSealing a] [none] [db true] [raSealing a, raSealing a] := by
  refine Spec.intro Tryz.func144 rfl rfl Tryz.ntmps144 rfl (by simp) ?_
  have hz := Sealing_sz a
  refine DW.seq ?_
  refine DW.reg (by simp; rfl) ?_
  refine DW.seq ?_
  refine DW.seq ?_
  refine DW.reg (by simp; rfl) ?_
  refine DW.condF (by simp) ?_
  refine DW.skip ?_
  refine DW.seq ?_
  refine DW.seq ?_
  refine DW.reg (by simp; rfl) ?_
  refine DW.condF (by simp) ?_
  refine DW.skip ?_
  refine DW.seq ?_
  refine DW.seq ?_
  refine DW.reg (by simp; rfl) ?_
  refine DW.condF (by simp) ?_
  refine DW.skip ?_
  refine DW.seq ?_
  refine DW.reg (by simp; rfl) ?_
  refine DW.ret ?_
  simp [Tryz.results144]
theorem eqSealingS_spec (l : List Sealing) (h : szL l ≤ 2 ^ 36) : Spec Tryz.prog 89 [ra l, ra l] [none] [db true] [ra l, ra l] := by
  refine Spec.intro Tryz.func89 rfl rfl Tryz.ntmps89 rfl (by simp) ?_
  have hll := szL_len l
  refine DW.seq ?_
  refine DW.reg (by simp; rfl) ?_
  refine DW.seq ?_
  refine DW.seq ?_
  refine DW.reg (by simp; rfl) ?_
  refine DW.condF (by simp) ?_
  refine DW.skip ?_
  refine DW.seq ?_
  refine DW.seq ?_
  refine DW.reg (by simp; rfl) ?_
  refine DW.block ?_
  refine DW.loopS (α := Nat) (fun i => i ≤ l.length) (fun i => l.length - i) (fun i => [(5, vi i)]) (fun i => []) [(0, _), (1, _)] [] [] 0 (by simp) (by simp; exact ⟨rfl, rfl⟩) (by simp) (by simp) (by rfl) ?_
  intro i hi
  refine DW.seq ?_
  refine DW.seq ?_
  refine DW.reg (by simp; rfl) ?_
  refine DW.condB (by simp; exact rfl) (fun hc1 => ?_) (fun hc1 => ?_)
  · have hlt : i < l.length := by simpa using hc1
    have hd := rR_drop_Sealing l i hlt
    have hs := szL_at l i hlt
    have hlt' : (i : Int) < l.length := by omega
    have w1 : IntKind.i64.wrap ((i : Int) + 1) = ((i + 1 : Nat) : Int) := (wr _ (by omega) (by omega)).trans (by omega)
    generalize l[i] = c at hd hs
    refine DW.skip ?_
    refine DW.seq ?_
    refine DW.block ?_
    refine DW.seq ?_
    refine DW.drawn mixed (by kernel_rfl) ?_
    refine RegD.addN 8 (by simp [hd, hlt']; (first | done | exact ⟨rfl, rfl⟩ | rfl)) ?_
    refine RegD.cert (Cert.callA rfl (by simp) rfl (by decide) (by simp [hd, hlt']; exact ⟨rfl, rfl⟩) (by simp [hd, hlt']; rfl) (by exact eqSealing_spec _ (by omega)) rfl (by simp) (by simp; rfl) rfl) ?_
    refine RegD.addN 1 (by simp [hd, hlt']; (first | done | exact ⟨rfl, rfl⟩ | rfl)) ?_
    refine RegD.nil ⟨by kernel_rfl, ?_⟩
    refine DW.condF (by simp) ?_
    refine DW.skip ?_
    refine DW.reg (by simp [w1]; rfl) ?_
    exact ⟨i + 1, hlt, by omega, by simp, by simp, by simp, by rfl⟩
  · refine DW.exit ?_
    refine DW.seq ?_
    refine DW.reg (by simp; rfl) ?_
    refine DW.ret ?_
    simp [Tryz.results89]
theorem eqJob_spec (a : Job) (h : Row.sz a ≤ 2 ^ 36) : Spec Tryz.prog 143 [raJob a, raJob a] [none] [db true] [raJob a, raJob a] := by
  refine Spec.intro Tryz.func143 rfl rfl Tryz.ntmps143 rfl (by simp) ?_
  have hz := Job_sz a
  refine DW.seq ?_
  refine DW.reg (by simp; rfl) ?_
  refine DW.seq ?_
  refine DW.seq ?_
  refine DW.regs ?_
  refine RegO.opN 4 (by simp; rfl) ?_
  refine RegO.step rfl (OpStep.callA rfl (by simp; exact ⟨rfl, rfl⟩) (by simp; rfl) (by exact eqAsk_spec _ (by omega)) (by simp) (by simp; rfl)) ?_
  refine RegO.opN 1 (by simp; rfl) ?_
  refine RegO.nil ?_
  refine DW.condF (by simp) ?_
  refine DW.skip ?_
  refine DW.seq ?_
  refine DW.seq ?_
  refine DW.regs ?_
  refine RegO.opN 4 (by simp; rfl) ?_
  refine RegO.step rfl (OpStep.callA rfl (by simp; exact ⟨rfl, rfl⟩) (by simp; rfl) (by exact eqResult_spec _ (by omega)) (by simp) (by simp; rfl)) ?_
  refine RegO.opN 1 (by simp; rfl) ?_
  refine RegO.nil ?_
  refine DW.condF (by simp) ?_
  refine DW.skip ?_
  refine DW.seq ?_
  refine DW.seq ?_
  refine DW.regs ?_
  refine RegO.opN 4 (by simp; rfl) ?_
  refine RegO.step rfl (OpStep.callA rfl (by simp; exact ⟨rfl, rfl⟩) (by simp; rfl) (by exact eqStepS_spec _ (by omega)) (by simp) (by simp; rfl)) ?_
  refine RegO.opN 1 (by simp; rfl) ?_
  refine RegO.nil ?_
  refine DW.condF (by simp) ?_
  refine DW.skip ?_
  refine DW.seq ?_
  refine DW.seq ?_
  refine DW.regs ?_
  refine RegO.opN 4 (by simp; rfl) ?_
  refine RegO.step rfl (OpStep.callA rfl (by simp; exact ⟨rfl, rfl⟩) (by simp; rfl) (by exact eqSealingS_spec _ (by omega)) (by simp) (by simp; rfl)) ?_
  refine RegO.opN 1 (by simp; rfl) ?_
  refine RegO.nil ?_
  refine DW.condF (by simp) ?_
  refine DW.skip ?_
  refine DW.seq ?_
  refine DW.seq ?_
  refine DW.reg (by simp; rfl) ?_
  refine DW.condF (by simp) ?_
  refine DW.skip ?_
  refine DW.seq ?_
  refine DW.seq ?_
  refine DW.reg (by simp; rfl) ?_
  refine DW.condF (by simp) ?_
  refine DW.skip ?_
  refine DW.seq ?_
  refine DW.seq ?_
  refine DW.reg (by simp; rfl) ?_
  refine DW.condF (by simp) ?_
  refine DW.skip ?_
  refine DW.seq ?_
  refine DW.reg (by simp; rfl) ?_
  refine DW.ret ?_
  simp [Tryz.results143]
theorem eqJobS_spec (l : List Job) (h : szL l ≤ 2 ^ 36) : Spec Tryz.prog 88 [ra l, ra l] [none] [db true] [ra l, ra l] := by
  refine Spec.intro Tryz.func88 rfl rfl Tryz.ntmps88 rfl (by simp) ?_
  have hll := szL_len l
  refine DW.seq ?_
  refine DW.reg (by simp; rfl) ?_
  refine DW.seq ?_
  refine DW.seq ?_
  refine DW.reg (by simp; rfl) ?_
  refine DW.condF (by simp) ?_
  refine DW.skip ?_
  refine DW.seq ?_
  refine DW.seq ?_
  refine DW.reg (by simp; rfl) ?_
  refine DW.block ?_
  refine DW.loopS (α := Nat) (fun i => i ≤ l.length) (fun i => l.length - i) (fun i => [(5, vi i)]) (fun i => []) [(0, _), (1, _)] [] [] 0 (by simp) (by simp; exact ⟨rfl, rfl⟩) (by simp) (by simp) (by rfl) ?_
  intro i hi
  refine DW.seq ?_
  refine DW.seq ?_
  refine DW.reg (by simp; rfl) ?_
  refine DW.condB (by simp; exact rfl) (fun hc1 => ?_) (fun hc1 => ?_)
  · have hlt : i < l.length := by simpa using hc1
    have hd := rR_drop_Job l i hlt
    have hs := szL_at l i hlt
    have hlt' : (i : Int) < l.length := by omega
    have w1 : IntKind.i64.wrap ((i : Int) + 1) = ((i + 1 : Nat) : Int) := (wr _ (by omega) (by omega)).trans (by omega)
    generalize l[i] = c at hd hs
    refine DW.skip ?_
    refine DW.seq ?_
    refine DW.block ?_
    refine DW.seq ?_
    refine DW.drawn mixed (by kernel_rfl) ?_
    refine RegD.addN 8 (by simp [hd, hlt']; (first | done | exact ⟨rfl, rfl⟩ | rfl)) ?_
    refine RegD.cert (Cert.callA rfl (by simp) rfl (by decide) (by simp [hd, hlt']; exact ⟨rfl, rfl⟩) (by simp [hd, hlt']; rfl) (by exact eqJob_spec _ (by omega)) rfl (by simp) (by simp; rfl) rfl) ?_
    refine RegD.addN 1 (by simp [hd, hlt']; (first | done | exact ⟨rfl, rfl⟩ | rfl)) ?_
    refine RegD.nil ⟨by kernel_rfl, ?_⟩
    refine DW.condF (by simp) ?_
    refine DW.skip ?_
    refine DW.reg (by simp [w1]; rfl) ?_
    exact ⟨i + 1, hlt, by omega, by simp, by simp, by simp, by rfl⟩
  · refine DW.exit ?_
    refine DW.seq ?_
    refine DW.reg (by simp; rfl) ?_
    refine DW.ret ?_
    simp [Tryz.results88]
theorem eqSystem_spec (a : System) (h : Row.sz a ≤ 2 ^ 36) : Spec Tryz.prog 26 [raSystem a, raSystem a] [none] [db true] [raSystem a, raSystem a] := by
  refine Spec.intro Tryz.func26 rfl rfl Tryz.ntmps26 rfl (by simp) ?_
  have hz := System_sz a
  refine DW.seq ?_
  refine DW.reg (by simp; rfl) ?_
  refine DW.seq ?_
  refine DW.seq ?_
  refine DW.regs ?_
  refine RegO.opN 4 (by simp; rfl) ?_
  refine RegO.step rfl (OpStep.callA rfl (by simp; exact ⟨rfl, rfl⟩) (by simp; rfl) (by exact eqGeo_spec _ (by omega)) (by simp) (by simp; rfl)) ?_
  refine RegO.opN 1 (by simp; rfl) ?_
  refine RegO.nil ?_
  refine DW.condF (by simp) ?_
  refine DW.skip ?_
  refine DW.seq ?_
  refine DW.seq ?_
  refine DW.regs ?_
  refine RegO.opN 4 (by simp; rfl) ?_
  refine RegO.step rfl (OpStep.callA rfl (by simp; exact ⟨rfl, rfl⟩) (by simp; rfl) (by exact eqMemory_spec _ (by omega)) (by simp) (by simp; rfl)) ?_
  refine RegO.opN 1 (by simp; rfl) ?_
  refine RegO.nil ?_
  refine DW.condF (by simp) ?_
  refine DW.skip ?_
  refine DW.seq ?_
  refine DW.seq ?_
  refine DW.regs ?_
  refine RegO.opN 4 (by simp; rfl) ?_
  refine RegO.step rfl (OpStep.callA rfl (by simp; exact ⟨rfl, rfl⟩) (by simp; rfl) (by exact eqJobS_spec _ (by omega)) (by simp) (by simp; rfl)) ?_
  refine RegO.opN 1 (by simp; rfl) ?_
  refine RegO.nil ?_
  refine DW.condF (by simp) ?_
  refine DW.skip ?_
  refine DW.seq ?_
  refine DW.seq ?_
  refine DW.regs ?_
  refine RegO.opN 4 (by simp; rfl) ?_
  refine RegO.step rfl (OpStep.callA rfl (by simp; exact ⟨rfl, rfl⟩) (by simp; rfl) (by exact eqSealingS_spec _ (by omega)) (by simp) (by simp; rfl)) ?_
  refine RegO.opN 1 (by simp; rfl) ?_
  refine RegO.nil ?_
  refine DW.condF (by simp) ?_
  refine DW.skip ?_
  refine DW.seq ?_
  refine DW.reg (by simp; rfl) ?_
  refine DW.ret ?_
  simp [Tryz.results26]
theorem markCellS_spec (l : List Cell) (k : Int) (h0 : 0 < k) (h1 : k + (ctL l : Int) ≤ 1152921504606846976) (h : szL l ≤ 2 ^ 36) : Spec Tryz.prog 85 [.one (.m 3 l.length (rD l)), ri k] [none] [di (k + (ctL l : Int))] [.one (.m 3 l.length (rD (mkL l k))), ri k] := by
  refine Spec.intro Tryz.func85 rfl rfl Tryz.ntmps85 rfl (by simp) ?_
  have hll := szL_len l
  refine DW.seq ?_
  refine DW.reg (by simp; rfl) ?_
  refine DW.seq ?_
  refine DW.seq ?_
  refine DW.reg (by simp; rfl) ?_
  refine DW.block ?_
  refine DW.loopS (α := Nat × Int) (fun p => p.1 ≤ l.length ∧ p.2 = k + (ctL (l.take p.1) : Int)) (fun p => l.length - p.1) (fun p => [(5, vi p.1), (1, vi p.2)]) (fun p => [(0, .hold [.ow () 3 l.length (rD (mkL (l.take p.1) k) ++ rD (l.drop p.1))])]) [(0, _)] [] [(0, .sl 0 [0] 0 l.length)] (0, k) (⟨Nat.zero_le _, by simp⟩) (by simp; exact rfl) (by simp) (by simp) (by rfl) ?_
  rintro ⟨i, K⟩ ⟨hi, hK⟩
  simp only at hi hK ⊢
  refine DW.seq ?_
  refine DW.seq ?_
  refine DW.reg (by simp; rfl) ?_
  refine DW.condB (by simp; exact rfl) (fun hc0 => ?_) (fun hc0 => ?_)
  · have hlt : i < l.length := by simpa using hc0
    have hd := rD_dropc l i hlt
    have hs := szL_at l i hlt
    have hct := ctL_take l i hlt
    have hca := ctL_at l i hlt
    have hm := mkL_take l i k hlt
    replace hm := congrArg rD hm
    rw [rD_append, ← hK] at hm
    have hlt' : (i : Int) < l.length := by omega
    have w1 : IntKind.i64.wrap ((i : Int) + 1) = ((i + 1 : Nat) : Int) := (wr _ (by omega) (by omega)).trans (by omega)
    have hA : (rD (mkL (l.take i) k)).length = i * 3 := by rw [rD_len_Cell, mkL_len, List.length_take, Nat.min_eq_left (by omega)]
    generalize l[i] = c at hd hs hct hca hm
    have hcc := Cell_ct c
    have hcs := Cell_sz c
    rw [Cell_mk] at hm
    replace hm : rD (mkL (l.take (i + 1)) k) = rD (mkL (l.take i) k) ++ Cell.d _ := hm.trans (by simp only [rD, List.flatMap_cons, List.flatMap_nil, List.append_nil]; rfl)
    replace hd : rD (l.drop i) = Cell.d c ++ rD (l.drop (i + 1)) := hd
    have t0 : 0 < K ∧ K < 4611686018427387904 := ⟨by omega, by omega⟩
    have t1 : 0 < K + 1 ∧ K + 1 < 4611686018427387904 := ⟨by omega, by omega⟩
    have t2 : 0 < K + 2 ∧ K + 2 < 4611686018427387904 := ⟨by omega, by omega⟩
    obtain ⟨v1, v2, v3⟩ : IntKind.i64.wrap (K + 1) = K + 1 ∧ IntKind.i64.wrap (K + 1 + 1) = K + 2 ∧ IntKind.i64.wrap (K + 2 + 1) = K + 3 := ⟨(wr _ (by omega) (by omega)).trans (by omega), (wr _ (by omega) (by omega)).trans (by omega), (wr _ (by omega) (by omega)).trans (by omega)⟩
    refine DW.skip ?_
    refine DW.seq ?_
    refine DW.block ?_
    refine DW.seq ?_
    refine DW.reg (by simp [hd, hlt', app_get hA, app_get0 hA, app_set hA, app_set0 hA, Nat.add_assoc]; rfl) ?_
    refine DW.seq ?_
    refine DW.reg (by simp [v1]; rfl) ?_
    refine DW.seq ?_
    refine DW.regs ?_
    refine RegO.opN 3 (by simp [hd, hlt', app_get hA, app_get0 hA, app_set hA, app_set0 hA, Nat.add_assoc]; rfl) ?_
    refine RegO.step rfl (OpStep.callA rfl (by simp [hd, hlt', app_get hA, app_get0 hA, app_set hA, app_set0 hA, Nat.add_assoc]; exact ⟨rfl, rfl⟩) (by simp [hd, hlt', app_get hA, app_get0 hA, app_set hA, app_set0 hA, Nat.add_assoc]; rfl) (by exact markText_spec _ t1.1 t1.2) (by simp) (by simp [hd, hlt', app_get hA, app_get0 hA, app_set hA, app_set0 hA, Nat.add_assoc]; rfl)) ?_
    refine RegO.opN 3 (by simp [hd, hlt', app_get hA, app_get0 hA, app_set hA, app_set0 hA, Nat.add_assoc]; rfl) ?_
    refine RegO.nil ?_
    refine DW.seq ?_
    refine DW.reg (by simp [v2]; rfl) ?_
    refine DW.seq ?_
    refine DW.reg (by simp [hd, hlt', app_get hA, app_get0 hA, app_set hA, app_set0 hA, Nat.add_assoc]; rfl) ?_
    refine DW.reg (by simp [v3]; rfl) ?_
    refine DW.reg (by simp [w1]; rfl) ?_
    clear v1 v2 v3
    exact ⟨(i + 1, K + 3), ⟨hlt, by simp only; omega⟩, by simp only; omega, by simp, by simp [hm, mb], by simp, by rfl⟩
  · have hil : i = l.length := by
      have : ¬ i < l.length := by simpa using hc0
      omega
    subst hil
    rw [List.take_length] at hK
    refine DW.exit ?_
    refine DW.seq ?_
    refine DW.reg (by simp; rfl) ?_
    refine DW.ret ?_
    simp [Tryz.results85, hK]
theorem markCellS_spec0 (k : Int) : Spec Tryz.prog 85 [.one (.r (.sl 0 [])), ri k] [none] [di k] [.one (.r (.sl 0 [])), ri k] := by
  refine Spec.intro Tryz.func85 rfl rfl Tryz.ntmps85 rfl (by simp) ?_
  refine DW.seq ?_
  refine DW.reg (by simp; rfl) ?_
  refine DW.seq ?_
  refine DW.seq ?_
  refine DW.reg (by simp; rfl) ?_
  refine DW.block ?_
  refine DW.loopS (α := Nat) (fun p => True) (fun p => p) (fun p => [(5, vi 0), (1, vi k)]) (fun p => []) [(0, _)] [] [] 0 (trivial) (by simp; exact rfl) (by simp) (by simp) (by rfl) ?_
  rintro p -
  refine DW.seq ?_
  refine DW.seq ?_
  refine DW.reg (by simp; rfl) ?_
  refine DW.condF (by simp) ?_
  refine DW.exit ?_
  refine DW.seq ?_
  refine DW.reg (by simp; rfl) ?_
  refine DW.ret ?_
  simp [Tryz.results85]
theorem markMemory_spec (a : Memory) (k : Int) (h0 : 0 < k) (h1 : k + (Memory.ctT a : Int) ≤ 1152921504606846976) (h : Row.sz a ≤ 2 ^ 36) : Spec Tryz.prog 22 [maMemory a, ri k] [none] [di (k + (Memory.ctT a : Int))] [maMemory (Memory.mkT a k), ri k] := by
  refine Spec.intro Tryz.func22 rfl rfl Tryz.ntmps22 rfl (by simp) ?_
  have hz := Memory_sz a
  have hT : Memory.ctT a = ctL a.Cells := by simp only [Memory.mkT, Memory.ctT]
  have u0 : 0 < k ∧ k + (ctL a.Cells : Int) ≤ 1152921504606846976 ∧ szL a.Cells ≤ 2 ^ 36 := ⟨by omega, by omega, by omega⟩
  have hTT : k + (Memory.ctT a : Int) = k + (ctL a.Cells : Int) := by omega
  obtain ⟨a_Kept, a_Cells⟩ := a
  simp only at *
  rcases nil_or_pos' a_Cells with ⟨m0, n0, e0, p0, rfl⟩ | ⟨m0, n0, e0, p0, -⟩
  all_goals
    refine DW.ghost (Ghost.empty 0) ?_
    refine DW.seq ?_
    refine DW.regs ?_
    refine RegO.step rfl (OpStep.boxR rfl rfl (by decide) (by simp [m0, n0, e0, p0]; rfl) (by simp [m0, n0, e0, p0]; first | exact ⟨rfl, rfl⟩ | rfl) (by simp) (by simp)) ?_
    refine RegO.opN 1 (by simp; rfl) ?_
    refine RegO.nil ?_
    first
      | refine DW.norm [(1, _), (2, _)] [(0, _), (2, _)] [(1, _)] (by simp [m0, n0, e0, p0]; exact ⟨rfl, rfl⟩) (by simp [m0, n0, e0, p0]; exact ⟨rfl, rfl⟩) (by simp [m0, n0, e0, p0]; rfl) (by rfl) ?_
      | refine DW.norm [(1, _), (2, _)] [(2, _)] [] (by simp [m0, n0, e0, p0]; exact ⟨rfl, rfl⟩) (by simp [m0, n0, e0, p0]; rfl) (by simp [m0, n0, e0, p0]) (by rfl) ?_
    refine DW.seq ?_
    refine DW.regs ?_
    refine RegO.opN 3 (by simp [m0, n0, e0, p0]; rfl) ?_
    first
      | (refine RegO.step rfl (OpStep.callL (io := 0) rfl (by simp [m0, n0, e0, p0]; rfl) (markCellS_spec _ _ u0.1 u0.2.1 u0.2.2) (by rfl) (by rfl) (by rfl) (by rfl) (by simp [lendL, FS.lend, m0, n0, e0, p0]; exact ⟨rfl, rfl⟩) (by simp [apartP]) (by simp) (by simp [m0, n0, e0, p0]; rfl) (by simp [rosOk]) (by simp) (by simp [backFS, hBack, pzsC, pzS, paCells, PC.tree, m0, n0, e0, p0]; rfl)) ?_)
      | refine RegO.step rfl (OpStep.callA rfl (by simp [m0, n0, e0, p0]; exact ⟨rfl, rfl⟩) (by simp [m0, n0, e0, p0]; rfl) (by exact markCellS_spec0 _) (by simp) (by simp [m0, n0, e0, p0]; rfl)) ?_
    refine RegO.opN 1 (by simp [m0, n0, e0, p0]; rfl) ?_
    refine RegO.nil ?_
    first
      | refine DW.norm [(1, _), (2, _)] [(0, _), (2, _)] [(1, _)] (by simp [m0, n0, e0, p0]; exact ⟨rfl, rfl⟩) (by simp [m0, n0, e0, p0]; exact ⟨rfl, rfl⟩) (by simp [m0, n0, e0, p0]; rfl) (by rfl) ?_
      | refine DW.norm [(1, _), (2, _)] [(2, _)] [] (by simp [m0, n0, e0, p0]; exact ⟨rfl, rfl⟩) (by simp [m0, n0, e0, p0]; rfl) (by simp [m0, n0, e0, p0]) (by rfl) ?_
    refine DW.seq ?_
    refine DW.reg (by simp [m0, n0, e0, p0]; rfl) ?_
    try (refine DW.ghost ((Ghost.move (id := 2) (id' := 1001) (p := [1]) (by simp; rfl) (by simp [m0, n0, e0, p0]; first | exact ⟨rfl, rfl, rfl⟩ | rfl) (by simp)).trans (Ghost.plant 1001 0 1 (by simp [m0, n0, e0, p0]; first | exact ⟨rfl, rfl, rfl⟩ | rfl) (by simp; rfl) (by simp))) ?_)
    refine DW.ret ?_
    simp [Tryz.results22, hTT, Memory.mkT, m0, n0, e0, p0]
theorem markStringS_spec (l : List ByteArray) (k : Int) (h0 : 0 < k) (h1 : k + (ctL l : Int) ≤ 1152921504606846976) (h : szL l ≤ 2 ^ 36) : Spec Tryz.prog 111 [.one (.m 1 l.length (rD l)), ri k] [none] [di (k + (ctL l : Int))] [.one (.m 1 l.length (rD (mkL l k))), ri k] := by
  refine Spec.intro Tryz.func111 rfl rfl Tryz.ntmps111 rfl (by simp) ?_
  have hll := szL_len l
  refine DW.seq ?_
  refine DW.reg (by simp; rfl) ?_
  refine DW.seq ?_
  refine DW.seq ?_
  refine DW.reg (by simp; rfl) ?_
  refine DW.block ?_
  refine DW.loopS (α := Nat × Int) (fun p => p.1 ≤ l.length ∧ p.2 = k + (ctL (l.take p.1) : Int)) (fun p => l.length - p.1) (fun p => [(5, vi p.1), (1, vi p.2)]) (fun p => [(0, .hold [.ow () 1 l.length (rD (mkL (l.take p.1) k) ++ rD (l.drop p.1))])]) [(0, _)] [] [(0, .sl 0 [0] 0 l.length)] (0, k) (⟨Nat.zero_le _, by simp⟩) (by simp; exact rfl) (by simp) (by simp) (by rfl) ?_
  rintro ⟨i, K⟩ ⟨hi, hK⟩
  simp only at hi hK ⊢
  refine DW.seq ?_
  refine DW.seq ?_
  refine DW.reg (by simp; rfl) ?_
  refine DW.condB (by simp; exact rfl) (fun hc0 => ?_) (fun hc0 => ?_)
  · have hlt : i < l.length := by simpa using hc0
    have hd := rD_dropc l i hlt
    have hs := szL_at l i hlt
    have hct := ctL_take l i hlt
    have hca := ctL_at l i hlt
    have hm := mkL_take l i k hlt
    replace hm := congrArg rD hm
    rw [rD_append, ← hK] at hm
    have hlt' : (i : Int) < l.length := by omega
    have w1 : IntKind.i64.wrap ((i : Int) + 1) = ((i + 1 : Nat) : Int) := (wr _ (by omega) (by omega)).trans (by omega)
    have hA : (rD (mkL (l.take i) k)).length = i := by rw [rD_len_ByteArray, mkL_len, List.length_take, Nat.min_eq_left (by omega)]; omega
    generalize l[i] = c at hd hs hct hca hm
    have hcc : Row.ct c = 1 := rfl
    have hm' : rD (mkL (l.take (i + 1)) k) = rD (mkL (l.take i) k) ++ [T.sc (.string (mt K))] := hm
    clear hm
    have hm := hm'
    have hd' : rD (l.drop i) = [T.sc (.string c)] ++ rD (l.drop (i + 1)) := hd
    clear hd
    have hd := hd'
    have t0 : 0 < K ∧ K < 4611686018427387904 := ⟨by omega, by omega⟩
    obtain v1 : IntKind.i64.wrap (K + 1) = K + 1 := (wr _ (by omega) (by omega)).trans (by omega)
    refine DW.skip ?_
    refine DW.seq ?_
    refine DW.block ?_
    refine DW.seq ?_
    refine DW.regs ?_
    refine RegO.opN 3 (by simp [hd, hlt', app_get hA, app_get0 hA, app_set hA, app_set0 hA, Nat.add_assoc]; rfl) ?_
    refine RegO.step rfl (OpStep.callA rfl (by simp [hd, hlt', app_get hA, app_get0 hA, app_set hA, app_set0 hA, Nat.add_assoc]; exact ⟨rfl, rfl⟩) (by simp [hd, hlt', app_get hA, app_get0 hA, app_set hA, app_set0 hA, Nat.add_assoc]; rfl) (by exact markText_spec _ t0.1 t0.2) (by simp) (by simp [hd, hlt', app_get hA, app_get0 hA, app_set hA, app_set0 hA, Nat.add_assoc]; rfl)) ?_
    refine RegO.opN 2 (by simp [hd, hlt', app_get hA, app_get0 hA, app_set hA, app_set0 hA, Nat.add_assoc]; rfl) ?_
    refine RegO.nil ?_
    refine DW.reg (by simp [v1]; rfl) ?_
    refine DW.reg (by simp [w1]; rfl) ?_
    clear v1
    exact ⟨(i + 1, K + 1), ⟨hlt, by simp only; omega⟩, by simp only; omega, by simp, by simp [hm, mb], by simp, by rfl⟩
  · have hil : i = l.length := by
      have : ¬ i < l.length := by simpa using hc0
      omega
    subst hil
    rw [List.take_length] at hK
    refine DW.exit ?_
    refine DW.seq ?_
    refine DW.reg (by simp; rfl) ?_
    refine DW.ret ?_
    simp [Tryz.results111, hK]
theorem markStringS_spec0 (k : Int) : Spec Tryz.prog 111 [.one (.r (.sl 0 [])), ri k] [none] [di k] [.one (.r (.sl 0 [])), ri k] := by
  refine Spec.intro Tryz.func111 rfl rfl Tryz.ntmps111 rfl (by simp) ?_
  refine DW.seq ?_
  refine DW.reg (by simp; rfl) ?_
  refine DW.seq ?_
  refine DW.seq ?_
  refine DW.reg (by simp; rfl) ?_
  refine DW.block ?_
  refine DW.loopS (α := Nat) (fun p => True) (fun p => p) (fun p => [(5, vi 0), (1, vi k)]) (fun p => []) [(0, _)] [] [] 0 (trivial) (by simp; exact rfl) (by simp) (by simp) (by rfl) ?_
  rintro p -
  refine DW.seq ?_
  refine DW.seq ?_
  refine DW.reg (by simp; rfl) ?_
  refine DW.condF (by simp) ?_
  refine DW.exit ?_
  refine DW.seq ?_
  refine DW.reg (by simp; rfl) ?_
  refine DW.ret ?_
  simp [Tryz.results111]
theorem markStepS_spec (l : List Step) (k : Int) (h0 : 0 < k) (h1 : k + (ctL l : Int) ≤ 1152921504606846976) (h : szL l ≤ 2 ^ 36) : Spec Tryz.prog 17 [.one (.m 3 l.length (rD l)), ri k] [none] [di (k + (ctL l : Int))] [.one (.m 3 l.length (rD (mkL l k))), ri k] := by
  refine Spec.intro Tryz.func17 rfl rfl Tryz.ntmps17 rfl (by simp) ?_
  have hll := szL_len l
  refine DW.seq ?_
  refine DW.reg (by simp; rfl) ?_
  refine DW.seq ?_
  refine DW.seq ?_
  refine DW.reg (by simp; rfl) ?_
  refine DW.block ?_
  refine DW.loopS (α := Nat × Int) (fun p => p.1 ≤ l.length ∧ p.2 = k + (ctL (l.take p.1) : Int)) (fun p => l.length - p.1) (fun p => [(5, vi p.1), (1, vi p.2)]) (fun p => [(0, .hold [.ow () 3 l.length (rD (mkL (l.take p.1) k) ++ rD (l.drop p.1))])]) [(0, _)] [] [(0, .sl 0 [0] 0 l.length)] (0, k) (⟨Nat.zero_le _, by simp⟩) (by simp; exact rfl) (by simp) (by simp) (by rfl) ?_
  rintro ⟨i, K⟩ ⟨hi, hK⟩
  simp only at hi hK ⊢
  refine DW.seq ?_
  refine DW.seq ?_
  refine DW.reg (by simp; rfl) ?_
  refine DW.condB (by simp; exact rfl) (fun hc0 => ?_) (fun hc0 => ?_)
  · have hlt : i < l.length := by simpa using hc0
    have hd := rD_dropc l i hlt
    have hs := szL_at l i hlt
    have hct := ctL_take l i hlt
    have hca := ctL_at l i hlt
    have hm := mkL_take l i k hlt
    replace hm := congrArg rD hm
    rw [rD_append, ← hK] at hm
    have hlt' : (i : Int) < l.length := by omega
    have w1 : IntKind.i64.wrap ((i : Int) + 1) = ((i + 1 : Nat) : Int) := (wr _ (by omega) (by omega)).trans (by omega)
    have hA : (rD (mkL (l.take i) k)).length = i * 3 := by rw [rD_len_Step, mkL_len, List.length_take, Nat.min_eq_left (by omega)]
    generalize l[i] = c at hd hs hct hca hm
    have hcc := Step_ct c
    have hcs := Step_sz c
    rw [Step_mk] at hm
    replace hm : rD (mkL (l.take (i + 1)) k) = rD (mkL (l.take i) k) ++ Step.d _ := hm.trans (by simp only [rD, List.flatMap_cons, List.flatMap_nil, List.append_nil]; rfl)
    replace hd : rD (l.drop i) = Step.d c ++ rD (l.drop (i + 1)) := hd
    have t0 : 0 < K ∧ K < 4611686018427387904 := ⟨by omega, by omega⟩
    have t1 : 0 < K + 1 ∧ K + 1 < 4611686018427387904 := ⟨by omega, by omega⟩
    have t2 : 0 < K + 2 ∧ K + 2 < 4611686018427387904 := ⟨by omega, by omega⟩
    obtain ⟨v1, v2, v3⟩ : IntKind.i64.wrap (K + 1) = K + 1 ∧ IntKind.i64.wrap (K + 1 + 1) = K + 2 ∧ IntKind.i64.wrap (K + 2 + 1) = K + 3 := ⟨(wr _ (by omega) (by omega)).trans (by omega), (wr _ (by omega) (by omega)).trans (by omega), (wr _ (by omega) (by omega)).trans (by omega)⟩
    refine DW.skip ?_
    refine DW.seq ?_
    refine DW.block ?_
    refine DW.seq ?_
    refine DW.reg (by simp [hd, hlt', app_get hA, app_get0 hA, app_set hA, app_set0 hA, Nat.add_assoc]; rfl) ?_
    refine DW.seq ?_
    refine DW.reg (by simp [v1]; rfl) ?_
    refine DW.seq ?_
    refine DW.reg (by simp [hd, hlt', app_get hA, app_get0 hA, app_set hA, app_set0 hA, Nat.add_assoc]; rfl) ?_
    refine DW.seq ?_
    refine DW.reg (by simp [v2]; rfl) ?_
    refine DW.seq ?_
    refine DW.regs ?_
    refine RegO.opN 3 (by simp [hd, hlt', app_get hA, app_get0 hA, app_set hA, app_set0 hA, Nat.add_assoc]; rfl) ?_
    refine RegO.step rfl (OpStep.callA rfl (by simp [hd, hlt', app_get hA, app_get0 hA, app_set hA, app_set0 hA, Nat.add_assoc]; exact ⟨rfl, rfl⟩) (by simp [hd, hlt', app_get hA, app_get0 hA, app_set hA, app_set0 hA, Nat.add_assoc]; rfl) (by exact markText_spec _ t2.1 t2.2) (by simp) (by simp [hd, hlt', app_get hA, app_get0 hA, app_set hA, app_set0 hA, Nat.add_assoc]; rfl)) ?_
    refine RegO.opN 3 (by simp [hd, hlt', app_get hA, app_get0 hA, app_set hA, app_set0 hA, Nat.add_assoc]; rfl) ?_
    refine RegO.nil ?_
    refine DW.reg (by simp [v3]; rfl) ?_
    refine DW.reg (by simp [w1]; rfl) ?_
    clear v1 v2 v3
    exact ⟨(i + 1, K + 3), ⟨hlt, by simp only; omega⟩, by simp only; omega, by simp, by simp [hm, mb], by simp, by rfl⟩
  · have hil : i = l.length := by
      have : ¬ i < l.length := by simpa using hc0
      omega
    subst hil
    rw [List.take_length] at hK
    refine DW.exit ?_
    refine DW.seq ?_
    refine DW.reg (by simp; rfl) ?_
    refine DW.ret ?_
    simp [Tryz.results17, hK]
theorem markStepS_spec0 (k : Int) : Spec Tryz.prog 17 [.one (.r (.sl 0 [])), ri k] [none] [di k] [.one (.r (.sl 0 [])), ri k] := by
  refine Spec.intro Tryz.func17 rfl rfl Tryz.ntmps17 rfl (by simp) ?_
  refine DW.seq ?_
  refine DW.reg (by simp; rfl) ?_
  refine DW.seq ?_
  refine DW.seq ?_
  refine DW.reg (by simp; rfl) ?_
  refine DW.block ?_
  refine DW.loopS (α := Nat) (fun p => True) (fun p => p) (fun p => [(5, vi 0), (1, vi k)]) (fun p => []) [(0, _)] [] [] 0 (trivial) (by simp; exact rfl) (by simp) (by simp) (by rfl) ?_
  rintro p -
  refine DW.seq ?_
  refine DW.seq ?_
  refine DW.reg (by simp; rfl) ?_
  refine DW.condF (by simp) ?_
  refine DW.exit ?_
  refine DW.seq ?_
  refine DW.reg (by simp; rfl) ?_
  refine DW.ret ?_
  simp [Tryz.results17]
theorem markSealingS_spec (l : List Sealing) (k : Int) (h0 : 0 < k) (h1 : k + (ctL l : Int) ≤ 1152921504606846976) (h : szL l ≤ 2 ^ 36) : Spec Tryz.prog 91 [.one (.m 3 l.length (rD l)), ri k] [none] [di (k + (ctL l : Int))] [.one (.m 3 l.length (rD (mkL l k))), ri k] := by
  refine Spec.intro Tryz.func91 rfl rfl Tryz.ntmps91 rfl (by simp) ?_
  have hll := szL_len l
  refine DW.seq ?_
  refine DW.reg (by simp; rfl) ?_
  refine DW.seq ?_
  refine DW.seq ?_
  refine DW.reg (by simp; rfl) ?_
  refine DW.block ?_
  refine DW.loopS (α := Nat × Int) (fun p => p.1 ≤ l.length ∧ p.2 = k + (ctL (l.take p.1) : Int)) (fun p => l.length - p.1) (fun p => [(5, vi p.1), (1, vi p.2)]) (fun p => [(0, .hold [.ow () 3 l.length (rD (mkL (l.take p.1) k) ++ rD (l.drop p.1))])]) [(0, _)] [] [(0, .sl 0 [0] 0 l.length)] (0, k) (⟨Nat.zero_le _, by simp⟩) (by simp; exact rfl) (by simp) (by simp) (by rfl) ?_
  rintro ⟨i, K⟩ ⟨hi, hK⟩
  simp only at hi hK ⊢
  refine DW.seq ?_
  refine DW.seq ?_
  refine DW.reg (by simp; rfl) ?_
  refine DW.condB (by simp; exact rfl) (fun hc0 => ?_) (fun hc0 => ?_)
  · have hlt : i < l.length := by simpa using hc0
    have hd := rD_dropc l i hlt
    have hs := szL_at l i hlt
    have hct := ctL_take l i hlt
    have hca := ctL_at l i hlt
    have hm := mkL_take l i k hlt
    replace hm := congrArg rD hm
    rw [rD_append, ← hK] at hm
    have hlt' : (i : Int) < l.length := by omega
    have w1 : IntKind.i64.wrap ((i : Int) + 1) = ((i + 1 : Nat) : Int) := (wr _ (by omega) (by omega)).trans (by omega)
    have hA : (rD (mkL (l.take i) k)).length = i * 3 := by rw [rD_len_Sealing, mkL_len, List.length_take, Nat.min_eq_left (by omega)]
    generalize l[i] = c at hd hs hct hca hm
    have hcc := Sealing_ct c
    have hcs := Sealing_sz c
    rw [Sealing_mk] at hm
    replace hm : rD (mkL (l.take (i + 1)) k) = rD (mkL (l.take i) k) ++ Sealing.d _ := hm.trans (by simp only [rD, List.flatMap_cons, List.flatMap_nil, List.append_nil]; rfl)
    replace hd : rD (l.drop i) = Sealing.d c ++ rD (l.drop (i + 1)) := hd
    have t0 : 0 < K ∧ K < 4611686018427387904 := ⟨by omega, by omega⟩
    have t1 : 0 < K + 1 ∧ K + 1 < 4611686018427387904 := ⟨by omega, by omega⟩
    have t2 : 0 < K + 2 ∧ K + 2 < 4611686018427387904 := ⟨by omega, by omega⟩
    obtain ⟨v1, v2, v3⟩ : IntKind.i64.wrap (K + 1) = K + 1 ∧ IntKind.i64.wrap (K + 1 + 1) = K + 2 ∧ IntKind.i64.wrap (K + 2 + 1) = K + 3 := ⟨(wr _ (by omega) (by omega)).trans (by omega), (wr _ (by omega) (by omega)).trans (by omega), (wr _ (by omega) (by omega)).trans (by omega)⟩
    refine DW.skip ?_
    refine DW.seq ?_
    refine DW.block ?_
    refine DW.seq ?_
    refine DW.regs ?_
    refine RegO.opN 3 (by simp [hd, hlt', app_get hA, app_get0 hA, app_set hA, app_set0 hA, Nat.add_assoc]; rfl) ?_
    refine RegO.step rfl (OpStep.callA rfl (by simp [hd, hlt', app_get hA, app_get0 hA, app_set hA, app_set0 hA, Nat.add_assoc]; exact ⟨rfl, rfl⟩) (by simp [hd, hlt', app_get hA, app_get0 hA, app_set hA, app_set0 hA, Nat.add_assoc]; rfl) (by exact markText_spec _ t0.1 t0.2) (by simp) (by simp [hd, hlt', app_get hA, app_get0 hA, app_set hA, app_set0 hA, Nat.add_assoc]; rfl)) ?_
    refine RegO.opN 3 (by simp [hd, hlt', app_get hA, app_get0 hA, app_set hA, app_set0 hA, Nat.add_assoc]; rfl) ?_
    refine RegO.nil ?_
    refine DW.seq ?_
    refine DW.reg (by simp [v1]; rfl) ?_
    refine DW.seq ?_
    refine DW.regs ?_
    refine RegO.opN 3 (by simp [hd, hlt', app_get hA, app_get0 hA, app_set hA, app_set0 hA, Nat.add_assoc]; rfl) ?_
    refine RegO.step rfl (OpStep.callA rfl (by simp [hd, hlt', app_get hA, app_get0 hA, app_set hA, app_set0 hA, Nat.add_assoc]; exact ⟨rfl, rfl⟩) (by simp [hd, hlt', app_get hA, app_get0 hA, app_set hA, app_set0 hA, Nat.add_assoc]; rfl) (by exact markText_spec _ t1.1 t1.2) (by simp) (by simp [hd, hlt', app_get hA, app_get0 hA, app_set hA, app_set0 hA, Nat.add_assoc]; rfl)) ?_
    refine RegO.opN 3 (by simp [hd, hlt', app_get hA, app_get0 hA, app_set hA, app_set0 hA, Nat.add_assoc]; rfl) ?_
    refine RegO.nil ?_
    refine DW.seq ?_
    refine DW.reg (by simp [v2]; rfl) ?_
    refine DW.seq ?_
    refine DW.regs ?_
    refine RegO.opN 3 (by simp [hd, hlt', app_get hA, app_get0 hA, app_set hA, app_set0 hA, Nat.add_assoc]; rfl) ?_
    refine RegO.step rfl (OpStep.callA rfl (by simp [hd, hlt', app_get hA, app_get0 hA, app_set hA, app_set0 hA, Nat.add_assoc]; exact ⟨rfl, rfl⟩) (by simp [hd, hlt', app_get hA, app_get0 hA, app_set hA, app_set0 hA, Nat.add_assoc]; rfl) (by exact markText_spec _ t2.1 t2.2) (by simp) (by simp [hd, hlt', app_get hA, app_get0 hA, app_set hA, app_set0 hA, Nat.add_assoc]; rfl)) ?_
    refine RegO.opN 3 (by simp [hd, hlt', app_get hA, app_get0 hA, app_set hA, app_set0 hA, Nat.add_assoc]; rfl) ?_
    refine RegO.nil ?_
    refine DW.reg (by simp [v3]; rfl) ?_
    refine DW.reg (by simp [w1]; rfl) ?_
    clear v1 v2 v3
    exact ⟨(i + 1, K + 3), ⟨hlt, by simp only; omega⟩, by simp only; omega, by simp, by simp [hm, mb], by simp, by rfl⟩
  · have hil : i = l.length := by
      have : ¬ i < l.length := by simpa using hc0
      omega
    subst hil
    rw [List.take_length] at hK
    refine DW.exit ?_
    refine DW.seq ?_
    refine DW.reg (by simp; rfl) ?_
    refine DW.ret ?_
    simp [Tryz.results91, hK]
theorem markSealingS_spec0 (k : Int) : Spec Tryz.prog 91 [.one (.r (.sl 0 [])), ri k] [none] [di k] [.one (.r (.sl 0 [])), ri k] := by
  refine Spec.intro Tryz.func91 rfl rfl Tryz.ntmps91 rfl (by simp) ?_
  refine DW.seq ?_
  refine DW.reg (by simp; rfl) ?_
  refine DW.seq ?_
  refine DW.seq ?_
  refine DW.reg (by simp; rfl) ?_
  refine DW.block ?_
  refine DW.loopS (α := Nat) (fun p => True) (fun p => p) (fun p => [(5, vi 0), (1, vi k)]) (fun p => []) [(0, _)] [] [] 0 (trivial) (by simp; exact rfl) (by simp) (by simp) (by rfl) ?_
  rintro p -
  refine DW.seq ?_
  refine DW.seq ?_
  refine DW.reg (by simp; rfl) ?_
  refine DW.condF (by simp) ?_
  refine DW.exit ?_
  refine DW.seq ?_
  refine DW.reg (by simp; rfl) ?_
  refine DW.ret ?_
  simp [Tryz.results91]
theorem markJobS_spec (l : List Job) (k : Int) (h0 : 0 < k) (h1 : k + (ctL l : Int) ≤ 1152921504606846976) (h : szL l ≤ 2 ^ 36) : Spec Tryz.prog 90 [.one (.m 16 l.length (rD l)), ri k] [none] [di (k + (ctL l : Int))] [.one (.m 16 l.length (rD (mkL l k))), ri k] := by
  refine Spec.intro Tryz.func90 rfl rfl Tryz.ntmps90 rfl (by simp) ?_
  have hll := szL_len l
  refine DW.seq ?_
  refine DW.reg (by simp; rfl) ?_
  refine DW.seq ?_
  refine DW.seq ?_
  refine DW.reg (by simp; rfl) ?_
  refine DW.block ?_
  refine DW.loopS (α := Nat × Int) (fun p => p.1 ≤ l.length ∧ p.2 = k + (ctL (l.take p.1) : Int)) (fun p => l.length - p.1) (fun p => [(5, vi p.1), (1, vi p.2)]) (fun p => [(0, .hold [.ow () 16 l.length (rD (mkL (l.take p.1) k) ++ rD (l.drop p.1))])]) [(0, _)] [] [(0, .sl 0 [0] 0 l.length)] (0, k) (⟨Nat.zero_le _, by simp⟩) (by simp; exact rfl) (by simp) (by simp) (by rfl) ?_
  rintro ⟨i, K⟩ ⟨hi, hK⟩
  simp only at hi hK ⊢
  refine DW.seq ?_
  refine DW.seq ?_
  refine DW.reg (by simp; rfl) ?_
  refine DW.condB (by simp; exact rfl) (fun hc0 => ?_) (fun hc0 => ?_)
  · have hlt : i < l.length := by simpa using hc0
    have hd := rD_dropc l i hlt
    have hs := szL_at l i hlt
    have hct := ctL_take l i hlt
    have hca := ctL_at l i hlt
    have hm := mkL_take l i k hlt
    replace hm := congrArg rD hm
    rw [rD_append, ← hK] at hm
    have hlt' : (i : Int) < l.length := by omega
    have w1 : IntKind.i64.wrap ((i : Int) + 1) = ((i + 1 : Nat) : Int) := (wr _ (by omega) (by omega)).trans (by omega)
    have hA : (rD (mkL (l.take i) k)).length = i * 16 := by rw [rD_len_Job, mkL_len, List.length_take, Nat.min_eq_left (by omega)]
    generalize l[i] = c at hd hs hct hca hm
    have hcc := Job_ct c
    have hcs := Job_sz c
    rw [Job_mk] at hm
    replace hm : rD (mkL (l.take (i + 1)) k) = rD (mkL (l.take i) k) ++ Job.d _ := hm.trans (by simp only [rD, List.flatMap_cons, List.flatMap_nil, List.append_nil]; rfl)
    replace hd : rD (l.drop i) = Job.d c ++ rD (l.drop (i + 1)) := hd
    have hn0 := Ask_sz c.Ask
    have hn1 := Result_sz c.Result
    have t0 : 0 < K ∧ K < 4611686018427387904 := ⟨by omega, by omega⟩
    have t1 : 0 < K + 1 ∧ K + 1 < 4611686018427387904 := ⟨by omega, by omega⟩
    have t2 : 0 < K + 2 ∧ K + 2 < 4611686018427387904 := ⟨by omega, by omega⟩
    have t3 : 0 < K + 3 ∧ K + 3 < 4611686018427387904 := ⟨by omega, by omega⟩
    have t4 : 0 < K + 4 ∧ K + 4 < 4611686018427387904 := ⟨by omega, by omega⟩
    have t5 : 0 < K + 5 ∧ K + 5 < 4611686018427387904 := ⟨by omega, by omega⟩
    have t6 : 0 < K + 6 ∧ K + 6 < 4611686018427387904 := ⟨by omega, by omega⟩
    have t7 : 0 < K + 7 ∧ K + 7 < 4611686018427387904 := ⟨by omega, by omega⟩
    have t8 : 0 < K + 8 ∧ K + 8 < 4611686018427387904 := ⟨by omega, by omega⟩
    have t9 : 0 < K + 9 ∧ K + 9 < 4611686018427387904 := ⟨by omega, by omega⟩
    have u1 : 0 < K + 10 ∧ K + 10 + (ctL c.Result.Names : Int) ≤ 1152921504606846976 ∧ szL c.Result.Names ≤ 2 ^ 36 ∧ ¬ (K + 10 + (ctL c.Result.Names : Int) < 0) := ⟨by omega, by omega, by omega, by omega⟩
    have u2 : 0 < K + 10 + (ctL c.Result.Names : Int) ∧ K + 10 + (ctL c.Result.Names : Int) + (ctL c.Steps : Int) ≤ 1152921504606846976 ∧ szL c.Steps ≤ 2 ^ 36 ∧ ¬ (K + 10 + (ctL c.Result.Names : Int) + (ctL c.Steps : Int) < 0) := ⟨by omega, by omega, by omega, by omega⟩
    have u3 : 0 < K + 10 + (ctL c.Result.Names : Int) + (ctL c.Steps : Int) ∧ K + 10 + (ctL c.Result.Names : Int) + (ctL c.Steps : Int) + (ctL c.Seals : Int) ≤ 1152921504606846976 ∧ szL c.Seals ≤ 2 ^ 36 ∧ ¬ (K + 10 + (ctL c.Result.Names : Int) + (ctL c.Steps : Int) + (ctL c.Seals : Int) < 0) := ⟨by omega, by omega, by omega, by omega⟩
    have t10 : 0 < K + 10 + (ctL c.Result.Names : Int) + (ctL c.Steps : Int) + (ctL c.Seals : Int) ∧ K + 10 + (ctL c.Result.Names : Int) + (ctL c.Steps : Int) + (ctL c.Seals : Int) < 4611686018427387904 := ⟨by omega, by omega⟩
    have t11 : 0 < K + 11 + (ctL c.Result.Names : Int) + (ctL c.Steps : Int) + (ctL c.Seals : Int) ∧ K + 11 + (ctL c.Result.Names : Int) + (ctL c.Steps : Int) + (ctL c.Seals : Int) < 4611686018427387904 := ⟨by omega, by omega⟩
    have t12 : 0 < K + 12 + (ctL c.Result.Names : Int) + (ctL c.Steps : Int) + (ctL c.Seals : Int) ∧ K + 12 + (ctL c.Result.Names : Int) + (ctL c.Steps : Int) + (ctL c.Seals : Int) < 4611686018427387904 := ⟨by omega, by omega⟩
    obtain ⟨v1, v2, v3, v4, v5, v6, v7, v8, v9, v10, v11, v12, v13⟩ : IntKind.i64.wrap (K + 1) = K + 1 ∧ IntKind.i64.wrap (K + 1 + 1) = K + 2 ∧ IntKind.i64.wrap (K + 2 + 1) = K + 3 ∧ IntKind.i64.wrap (K + 3 + 1) = K + 4 ∧ IntKind.i64.wrap (K + 4 + 1) = K + 5 ∧ IntKind.i64.wrap (K + 5 + 1) = K + 6 ∧ IntKind.i64.wrap (K + 6 + 1) = K + 7 ∧ IntKind.i64.wrap (K + 7 + 1) = K + 8 ∧ IntKind.i64.wrap (K + 8 + 1) = K + 9 ∧ IntKind.i64.wrap (K + 9 + 1) = K + 10 ∧ IntKind.i64.wrap (K + 10 + (ctL c.Result.Names : Int) + (ctL c.Steps : Int) + (ctL c.Seals : Int) + 1) = K + 11 + (ctL c.Result.Names : Int) + (ctL c.Steps : Int) + (ctL c.Seals : Int) ∧ IntKind.i64.wrap (K + 11 + (ctL c.Result.Names : Int) + (ctL c.Steps : Int) + (ctL c.Seals : Int) + 1) = K + 12 + (ctL c.Result.Names : Int) + (ctL c.Steps : Int) + (ctL c.Seals : Int) ∧ IntKind.i64.wrap (K + 12 + (ctL c.Result.Names : Int) + (ctL c.Steps : Int) + (ctL c.Seals : Int) + 1) = K + 13 + (ctL c.Result.Names : Int) + (ctL c.Steps : Int) + (ctL c.Seals : Int) := ⟨(wr _ (by omega) (by omega)).trans (by omega), (wr _ (by omega) (by omega)).trans (by omega), (wr _ (by omega) (by omega)).trans (by omega), (wr _ (by omega) (by omega)).trans (by omega), (wr _ (by omega) (by omega)).trans (by omega), (wr _ (by omega) (by omega)).trans (by omega), (wr _ (by omega) (by omega)).trans (by omega), (wr _ (by omega) (by omega)).trans (by omega), (wr _ (by omega) (by omega)).trans (by omega), (wr _ (by omega) (by omega)).trans (by omega), (wr _ (by omega) (by omega)).trans (by omega), (wr _ (by omega) (by omega)).trans (by omega), (wr _ (by omega) (by omega)).trans (by omega)⟩
    refine DW.skip ?_
    refine DW.seq ?_
    refine DW.block ?_
    refine DW.seq ?_
    refine DW.reg (by simp [hd, hlt', app_get hA, app_get0 hA, app_set hA, app_set0 hA, Nat.add_assoc]; rfl) ?_
    refine DW.seq ?_
    refine DW.reg (by simp [v1]; rfl) ?_
    refine DW.norm [(0, _), (5, _), (1, _)] [(0, _)] [(0, _)] (by simp; exact ⟨rfl, rfl, rfl⟩) (by simp; rfl) (by simp; rfl) (by rfl) ?_
    refine DW.seq ?_
    refine DW.regs ?_
    refine RegO.opN 3 (by simp [hd, hlt', app_get hA, app_get0 hA, app_set hA, app_set0 hA, Nat.add_assoc]; rfl) ?_
    refine RegO.step rfl (OpStep.callA rfl (by simp [hd, hlt', app_get hA, app_get0 hA, app_set hA, app_set0 hA, Nat.add_assoc]; exact ⟨rfl, rfl⟩) (by simp [hd, hlt', app_get hA, app_get0 hA, app_set hA, app_set0 hA, Nat.add_assoc]; rfl) (by exact markText_spec _ t1.1 t1.2) (by simp) (by simp [hd, hlt', app_get hA, app_get0 hA, app_set hA, app_set0 hA, Nat.add_assoc]; rfl)) ?_
    refine RegO.opN 4 (by simp [hd, hlt', app_get hA, app_get0 hA, app_set hA, app_set0 hA, Nat.add_assoc]; rfl) ?_
    refine RegO.nil ?_
    refine DW.seq ?_
    refine DW.reg (by simp [v2]; rfl) ?_
    refine DW.norm [(0, _), (5, _), (1, _)] [(0, _)] [(0, _)] (by simp; exact ⟨rfl, rfl, rfl⟩) (by simp; rfl) (by simp; rfl) (by rfl) ?_
    refine DW.seq ?_
    refine DW.regs ?_
    refine RegO.opN 3 (by simp [hd, hlt', app_get hA, app_get0 hA, app_set hA, app_set0 hA, Nat.add_assoc]; rfl) ?_
    refine RegO.step rfl (OpStep.callA rfl (by simp [hd, hlt', app_get hA, app_get0 hA, app_set hA, app_set0 hA, Nat.add_assoc]; exact ⟨rfl, rfl⟩) (by simp [hd, hlt', app_get hA, app_get0 hA, app_set hA, app_set0 hA, Nat.add_assoc]; rfl) (by exact markText_spec _ t2.1 t2.2) (by simp) (by simp [hd, hlt', app_get hA, app_get0 hA, app_set hA, app_set0 hA, Nat.add_assoc]; rfl)) ?_
    refine RegO.opN 4 (by simp [hd, hlt', app_get hA, app_get0 hA, app_set hA, app_set0 hA, Nat.add_assoc]; rfl) ?_
    refine RegO.nil ?_
    refine DW.seq ?_
    refine DW.reg (by simp [v3]; rfl) ?_
    refine DW.norm [(0, _), (5, _), (1, _)] [(0, _)] [(0, _)] (by simp; exact ⟨rfl, rfl, rfl⟩) (by simp; rfl) (by simp; rfl) (by rfl) ?_
    refine DW.seq ?_
    refine DW.reg (by simp [hd, hlt', app_get hA, app_get0 hA, app_set hA, app_set0 hA, Nat.add_assoc]; rfl) ?_
    refine DW.seq ?_
    refine DW.reg (by simp [v4]; rfl) ?_
    refine DW.norm [(0, _), (5, _), (1, _)] [(0, _)] [(0, _)] (by simp; exact ⟨rfl, rfl, rfl⟩) (by simp; rfl) (by simp; rfl) (by rfl) ?_
    refine DW.seq ?_
    refine DW.reg (by simp [hd, hlt', app_get hA, app_get0 hA, app_set hA, app_set0 hA, Nat.add_assoc]; rfl) ?_
    refine DW.seq ?_
    refine DW.reg (by simp [v5]; rfl) ?_
    refine DW.norm [(0, _), (5, _), (1, _)] [(0, _)] [(0, _)] (by simp; exact ⟨rfl, rfl, rfl⟩) (by simp; rfl) (by simp; rfl) (by rfl) ?_
    refine DW.seq ?_
    refine DW.regs ?_
    refine RegO.opN 3 (by simp [hd, hlt', app_get hA, app_get0 hA, app_set hA, app_set0 hA, Nat.add_assoc]; rfl) ?_
    refine RegO.step rfl (OpStep.callA rfl (by simp [hd, hlt', app_get hA, app_get0 hA, app_set hA, app_set0 hA, Nat.add_assoc]; exact ⟨rfl, rfl⟩) (by simp [hd, hlt', app_get hA, app_get0 hA, app_set hA, app_set0 hA, Nat.add_assoc]; rfl) (by exact markText_spec _ t5.1 t5.2) (by simp) (by simp [hd, hlt', app_get hA, app_get0 hA, app_set hA, app_set0 hA, Nat.add_assoc]; rfl)) ?_
    refine RegO.opN 4 (by simp [hd, hlt', app_get hA, app_get0 hA, app_set hA, app_set0 hA, Nat.add_assoc]; rfl) ?_
    refine RegO.nil ?_
    refine DW.seq ?_
    refine DW.reg (by simp [v6]; rfl) ?_
    refine DW.norm [(0, _), (5, _), (1, _)] [(0, _)] [(0, _)] (by simp; exact ⟨rfl, rfl, rfl⟩) (by simp; rfl) (by simp; rfl) (by rfl) ?_
    refine DW.seq ?_
    refine DW.reg (by simp [hd, hlt', app_get hA, app_get0 hA, app_set hA, app_set0 hA, Nat.add_assoc]; rfl) ?_
    refine DW.seq ?_
    refine DW.reg (by simp [v7]; rfl) ?_
    refine DW.norm [(0, _), (5, _), (1, _)] [(0, _)] [(0, _)] (by simp; exact ⟨rfl, rfl, rfl⟩) (by simp; rfl) (by simp; rfl) (by rfl) ?_
    refine DW.seq ?_
    refine DW.regs ?_
    refine RegO.opN 3 (by simp [hd, hlt', app_get hA, app_get0 hA, app_set hA, app_set0 hA, Nat.add_assoc]; rfl) ?_
    refine RegO.step rfl (OpStep.callA rfl (by simp [hd, hlt', app_get hA, app_get0 hA, app_set hA, app_set0 hA, Nat.add_assoc]; exact ⟨rfl, rfl⟩) (by simp [hd, hlt', app_get hA, app_get0 hA, app_set hA, app_set0 hA, Nat.add_assoc]; rfl) (by exact markText_spec _ t7.1 t7.2) (by simp) (by simp [hd, hlt', app_get hA, app_get0 hA, app_set hA, app_set0 hA, Nat.add_assoc]; rfl)) ?_
    refine RegO.opN 4 (by simp [hd, hlt', app_get hA, app_get0 hA, app_set hA, app_set0 hA, Nat.add_assoc]; rfl) ?_
    refine RegO.nil ?_
    refine DW.seq ?_
    refine DW.reg (by simp [v8]; rfl) ?_
    refine DW.norm [(0, _), (5, _), (1, _)] [(0, _)] [(0, _)] (by simp; exact ⟨rfl, rfl, rfl⟩) (by simp; rfl) (by simp; rfl) (by rfl) ?_
    refine DW.seq ?_
    refine DW.reg (by simp [hd, hlt', app_get hA, app_get0 hA, app_set hA, app_set0 hA, Nat.add_assoc]; rfl) ?_
    refine DW.seq ?_
    refine DW.reg (by simp [v9]; rfl) ?_
    refine DW.norm [(0, _), (5, _), (1, _)] [(0, _)] [(0, _)] (by simp; exact ⟨rfl, rfl, rfl⟩) (by simp; rfl) (by simp; rfl) (by rfl) ?_
    refine DW.seq ?_
    refine DW.reg (by simp [hd, hlt', app_get hA, app_get0 hA, app_set hA, app_set0 hA, Nat.add_assoc]; rfl) ?_
    refine DW.seq ?_
    refine DW.reg (by simp [v10]; rfl) ?_
    refine DW.norm [(0, _), (5, _), (1, _)] [(0, _)] [(0, _)] (by simp; exact ⟨rfl, rfl, rfl⟩) (by simp; rfl) (by simp; rfl) (by rfl) ?_
    refine DW.seq ?_
    refine DW.regs ?_
    refine RegO.opN 7 (by simp [hd, hlt', app_get hA, app_get0 hA, app_set hA, app_set0 hA, Nat.add_assoc]; rfl) ?_
    refine RegO.step rfl (OpStep.callL (io := 0) rfl (by simp [hd, hlt', app_get hA, app_get0 hA, app_set hA, app_set0 hA, Nat.add_assoc]; rfl) (markStringS_spec c.Result.Names (K + 10) u1.1 u1.2.1 u1.2.2.1) (by rfl) (by rfl) (by rfl) (by rfl) (by simp [lendL, FS.lend, hd, hlt', app_get hA, app_get0 hA, app_set hA, app_set0 hA, Nat.add_assoc]; exact ⟨rfl, rfl⟩) (by simp [apartP]) (by simp) (by simp [hd, hlt', app_get hA, app_get0 hA, app_set hA, app_set0 hA, Nat.add_assoc]; rfl) (by simp [rosOk]) (by simp) (by simp [backFS, hBack, pzsC, pzS, paCells, PC.tree, hd, hlt', app_get hA, app_get0 hA, app_set hA, app_set0 hA, Nat.add_assoc]; rfl)) ?_
    refine RegO.opN 1 (by simp [hd, hlt', app_get hA, app_get0 hA, app_set hA, app_set0 hA, Nat.add_assoc]; rfl) ?_
    refine RegO.nil ?_
    refine DW.seq ?_
    refine DW.regs ?_
    refine RegO.opN 6 (by simp [hd, hlt', app_get hA, app_get0 hA, app_set hA, app_set0 hA, Nat.add_assoc]; rfl) ?_
    refine RegO.step rfl (OpStep.callL (io := 0) rfl (by simp [hd, hlt', app_get hA, app_get0 hA, app_set hA, app_set0 hA, Nat.add_assoc]; rfl) (markStepS_spec c.Steps (K + 10 + (ctL c.Result.Names : Int)) u2.1 u2.2.1 u2.2.2.1) (by rfl) (by rfl) (by rfl) (by rfl) (by simp [lendL, FS.lend, hd, hlt', app_get hA, app_get0 hA, app_set hA, app_set0 hA, Nat.add_assoc]; exact ⟨rfl, rfl⟩) (by simp [apartP]) (by simp) (by simp [hd, hlt', app_get hA, app_get0 hA, app_set hA, app_set0 hA, Nat.add_assoc]; rfl) (by simp [rosOk]) (by simp) (by simp [backFS, hBack, pzsC, pzS, paCells, PC.tree, hd, hlt', app_get hA, app_get0 hA, app_set hA, app_set0 hA, Nat.add_assoc]; rfl)) ?_
    refine RegO.opN 1 (by simp [hd, hlt', app_get hA, app_get0 hA, app_set hA, app_set0 hA, Nat.add_assoc]; rfl) ?_
    refine RegO.nil ?_
    refine DW.seq ?_
    refine DW.regs ?_
    refine RegO.opN 6 (by simp [hd, hlt', app_get hA, app_get0 hA, app_set hA, app_set0 hA, Nat.add_assoc]; rfl) ?_
    refine RegO.step rfl (OpStep.callL (io := 0) rfl (by simp [hd, hlt', app_get hA, app_get0 hA, app_set hA, app_set0 hA, Nat.add_assoc]; rfl) (markSealingS_spec c.Seals (K + 10 + (ctL c.Result.Names : Int) + (ctL c.Steps : Int)) u3.1 u3.2.1 u3.2.2.1) (by rfl) (by rfl) (by rfl) (by rfl) (by simp [lendL, FS.lend, hd, hlt', app_get hA, app_get0 hA, app_set hA, app_set0 hA, Nat.add_assoc]; exact ⟨rfl, rfl⟩) (by simp [apartP]) (by simp) (by simp [hd, hlt', app_get hA, app_get0 hA, app_set hA, app_set0 hA, Nat.add_assoc]; rfl) (by simp [rosOk]) (by simp) (by simp [backFS, hBack, pzsC, pzS, paCells, PC.tree, hd, hlt', app_get hA, app_get0 hA, app_set hA, app_set0 hA, Nat.add_assoc]; rfl)) ?_
    refine RegO.opN 1 (by simp [hd, hlt', app_get hA, app_get0 hA, app_set hA, app_set0 hA, Nat.add_assoc]; rfl) ?_
    refine RegO.nil ?_
    refine DW.seq ?_
    refine DW.reg (by simp [hd, hlt', app_get hA, app_get0 hA, app_set hA, app_set0 hA, Nat.add_assoc]; rfl) ?_
    refine DW.seq ?_
    refine DW.reg (by simp [v11]; rfl) ?_
    refine DW.norm [(0, _), (5, _), (1, _)] [(0, _)] [(0, _)] (by simp; exact ⟨rfl, rfl, rfl⟩) (by simp; rfl) (by simp; rfl) (by rfl) ?_
    refine DW.seq ?_
    refine DW.reg (by simp [hd, hlt', app_get hA, app_get0 hA, app_set hA, app_set0 hA, Nat.add_assoc]; rfl) ?_
    refine DW.seq ?_
    refine DW.reg (by simp [v12]; rfl) ?_
    refine DW.norm [(0, _), (5, _), (1, _)] [(0, _)] [(0, _)] (by simp; exact ⟨rfl, rfl, rfl⟩) (by simp; rfl) (by simp; rfl) (by rfl) ?_
    refine DW.seq ?_
    refine DW.reg (by simp [hd, hlt', app_get hA, app_get0 hA, app_set hA, app_set0 hA, Nat.add_assoc]; rfl) ?_
    refine DW.reg (by simp [v13]; rfl) ?_
    refine DW.norm [(0, _), (5, _), (1, _)] [(0, _)] [(0, _)] (by simp; exact ⟨rfl, rfl, rfl⟩) (by simp; rfl) (by simp; rfl) (by rfl) ?_
    refine DW.reg (by simp [w1]; rfl) ?_
    clear v1 v2 v3 v4 v5 v6 v7 v8 v9 v10 v11 v12 v13
    exact ⟨(i + 1, K + 13 + (ctL c.Result.Names : Int) + (ctL c.Steps : Int) + (ctL c.Seals : Int)), ⟨hlt, by simp only; omega⟩, by simp only; omega, by simp, by simp [hm, mb], by simp, by rfl⟩
  · have hil : i = l.length := by
      have : ¬ i < l.length := by simpa using hc0
      omega
    subst hil
    rw [List.take_length] at hK
    refine DW.exit ?_
    refine DW.seq ?_
    refine DW.reg (by simp; rfl) ?_
    refine DW.ret ?_
    simp [Tryz.results90, hK]
theorem markJobS_spec0 (k : Int) : Spec Tryz.prog 90 [.one (.r (.sl 0 [])), ri k] [none] [di k] [.one (.r (.sl 0 [])), ri k] := by
  refine Spec.intro Tryz.func90 rfl rfl Tryz.ntmps90 rfl (by simp) ?_
  refine DW.seq ?_
  refine DW.reg (by simp; rfl) ?_
  refine DW.seq ?_
  refine DW.seq ?_
  refine DW.reg (by simp; rfl) ?_
  refine DW.block ?_
  refine DW.loopS (α := Nat) (fun p => True) (fun p => p) (fun p => [(5, vi 0), (1, vi k)]) (fun p => []) [(0, _)] [] [] 0 (trivial) (by simp; exact rfl) (by simp) (by simp) (by rfl) ?_
  rintro p -
  refine DW.seq ?_
  refine DW.seq ?_
  refine DW.reg (by simp; rfl) ?_
  refine DW.condF (by simp) ?_
  refine DW.exit ?_
  refine DW.seq ?_
  refine DW.reg (by simp; rfl) ?_
  refine DW.ret ?_
  simp [Tryz.results90]
theorem markSystem_spec (a : System) (k : Int) (h0 : 0 < k) (h1 : k + (System.ctT a : Int) ≤ 1152921504606846976) (h : Row.sz a ≤ 2 ^ 36) : Spec Tryz.prog 27 [maSystem a, ri k] [none] [di (k + (System.ctT a : Int))] [maSystem (System.mkT a k), ri k] := by
  refine Spec.intro Tryz.func27 rfl rfl Tryz.ntmps27 rfl (by simp) ?_
  have hz := System_sz a
  have hT : System.ctT a = Memory.ctT a.Memory + ctL a.Jobs + ctL a.Seals := by simp only [System.mkT, System.ctT, Memory.mkT, Memory.ctT] <;> omega
  have hzGeo := Geo_sz a.Geo
  have hzMemory := Memory_sz a.Memory
  have u0 : 0 < k ∧ k + (Memory.ctT a.Memory : Int) ≤ 1152921504606846976 ∧ Row.sz a.Memory ≤ 2 ^ 36 := ⟨by omega, by omega, by omega⟩
  have u1 : 0 < k + (Memory.ctT a.Memory : Int) ∧ k + (Memory.ctT a.Memory : Int) + (ctL a.Jobs : Int) ≤ 1152921504606846976 ∧ szL a.Jobs ≤ 2 ^ 36 := ⟨by omega, by omega, by omega⟩
  have u2 : 0 < k + (Memory.ctT a.Memory : Int) + (ctL a.Jobs : Int) ∧ k + (Memory.ctT a.Memory : Int) + (ctL a.Jobs : Int) + (ctL a.Seals : Int) ≤ 1152921504606846976 ∧ szL a.Seals ≤ 2 ^ 36 := ⟨by omega, by omega, by omega⟩
  have hTT : k + (System.ctT a : Int) = k + (Memory.ctT a.Memory : Int) + (ctL a.Jobs : Int) + (ctL a.Seals : Int) := by omega
  obtain ⟨⟨a_Geo_Tenants, a_Geo_Pages, a_Geo_Inodes, a_Geo_Quota⟩, ⟨a_Memory_Kept, a_Memory_Cells⟩, a_Jobs, a_Seals⟩ := a
  simp only at *
  rcases nil_or_pos' a_Memory_Cells with ⟨m0, n0, e0, p0, rfl⟩ | ⟨m0, n0, e0, p0, -⟩ <;> rcases nil_or_pos' a_Jobs with ⟨m1, n1, e1, p1, rfl⟩ | ⟨m1, n1, e1, p1, -⟩ <;> rcases nil_or_pos' a_Seals with ⟨m2, n2, e2, p2, rfl⟩ | ⟨m2, n2, e2, p2, -⟩
  all_goals
    refine DW.ghost (Ghost.empty 0) ?_
    refine DW.seq ?_
    refine DW.regs ?_
    refine RegO.step rfl (OpStep.boxR rfl rfl (by decide) (by simp [m0, n0, e0, p0, m1, n1, e1, p1, m2, n2, e2, p2, Memory.mkT]; rfl) (by simp [m0, n0, e0, p0, m1, n1, e1, p1, m2, n2, e2, p2, Memory.mkT]; first | exact ⟨rfl, rfl⟩ | rfl) (by simp) (by simp)) ?_
    refine RegO.opN 1 (by simp; rfl) ?_
    refine RegO.nil ?_
    first
      | refine DW.norm [(1, _), (2, _)] [(0, _), (2, _)] [(5, _), (6, _), (7, _)] (by simp [m0, n0, e0, p0, m1, n1, e1, p1, m2, n2, e2, p2, Memory.mkT]; exact ⟨rfl, rfl⟩) (by simp [m0, n0, e0, p0, m1, n1, e1, p1, m2, n2, e2, p2, Memory.mkT]; exact ⟨rfl, rfl⟩) (by simp [m0, n0, e0, p0, m1, n1, e1, p1, m2, n2, e2, p2, Memory.mkT]; exact ⟨rfl, rfl, rfl⟩) (by rfl) ?_
      | refine DW.norm [(1, _), (2, _)] [(2, _)] [] (by simp [m0, n0, e0, p0, m1, n1, e1, p1, m2, n2, e2, p2, Memory.mkT]; exact ⟨rfl, rfl⟩) (by simp [m0, n0, e0, p0, m1, n1, e1, p1, m2, n2, e2, p2, Memory.mkT]; rfl) (by simp [m0, n0, e0, p0, m1, n1, e1, p1, m2, n2, e2, p2, Memory.mkT]) (by rfl) ?_
    refine DW.seq ?_
    refine DW.regs ?_
    refine RegO.opN 3 (by simp [m0, n0, e0, p0, m1, n1, e1, p1, m2, n2, e2, p2, Memory.mkT]; rfl) ?_
    refine RegO.step rfl (OpStep.callL (io := 0) rfl (by simp [m0, n0, e0, p0, m1, n1, e1, p1, m2, n2, e2, p2, Memory.mkT]; rfl) (markMemory_spec _ _ u0.1 u0.2.1 u0.2.2) (by rfl) (by rfl) (by rfl) (by rfl) (by simp [lendL, FS.lend, m0, n0, e0, p0, m1, n1, e1, p1, m2, n2, e2, p2, Memory.mkT]; exact ⟨rfl, rfl⟩) (by simp [apartP]) (by simp) (by simp [m0, n0, e0, p0, m1, n1, e1, p1, m2, n2, e2, p2, Memory.mkT]; rfl) (by simp [rosOk]) (by simp) (by simp [backFS, hBack, pzsC, pzS, paCells, PC.tree, m0, n0, e0, p0, m1, n1, e1, p1, m2, n2, e2, p2, Memory.mkT]; rfl)) ?_
    refine RegO.opN 1 (by simp [m0, n0, e0, p0, m1, n1, e1, p1, m2, n2, e2, p2, Memory.mkT]; rfl) ?_
    refine RegO.nil ?_
    first
      | refine DW.norm [(1, _), (2, _)] [(0, _), (2, _)] [(5, _), (6, _), (7, _)] (by simp [m0, n0, e0, p0, m1, n1, e1, p1, m2, n2, e2, p2, Memory.mkT]; exact ⟨rfl, rfl⟩) (by simp [m0, n0, e0, p0, m1, n1, e1, p1, m2, n2, e2, p2, Memory.mkT]; exact ⟨rfl, rfl⟩) (by simp [m0, n0, e0, p0, m1, n1, e1, p1, m2, n2, e2, p2, Memory.mkT]; exact ⟨rfl, rfl, rfl⟩) (by rfl) ?_
      | refine DW.norm [(1, _), (2, _)] [(2, _)] [] (by simp [m0, n0, e0, p0, m1, n1, e1, p1, m2, n2, e2, p2, Memory.mkT]; exact ⟨rfl, rfl⟩) (by simp [m0, n0, e0, p0, m1, n1, e1, p1, m2, n2, e2, p2, Memory.mkT]; rfl) (by simp [m0, n0, e0, p0, m1, n1, e1, p1, m2, n2, e2, p2, Memory.mkT]) (by rfl) ?_
    refine DW.seq ?_
    refine DW.regs ?_
    refine RegO.opN 3 (by simp [m0, n0, e0, p0, m1, n1, e1, p1, m2, n2, e2, p2, Memory.mkT]; rfl) ?_
    first
      | (refine RegO.step rfl (OpStep.callL (io := 0) rfl (by simp [m0, n0, e0, p0, m1, n1, e1, p1, m2, n2, e2, p2, Memory.mkT]; rfl) (markJobS_spec _ _ u1.1 u1.2.1 u1.2.2) (by rfl) (by rfl) (by rfl) (by rfl) (by simp [lendL, FS.lend, m0, n0, e0, p0, m1, n1, e1, p1, m2, n2, e2, p2, Memory.mkT]; exact ⟨rfl, rfl⟩) (by simp [apartP]) (by simp) (by simp [m0, n0, e0, p0, m1, n1, e1, p1, m2, n2, e2, p2, Memory.mkT]; rfl) (by simp [rosOk]) (by simp) (by simp [backFS, hBack, pzsC, pzS, paCells, PC.tree, m0, n0, e0, p0, m1, n1, e1, p1, m2, n2, e2, p2, Memory.mkT]; rfl)) ?_)
      | refine RegO.step rfl (OpStep.callA rfl (by simp [m0, n0, e0, p0, m1, n1, e1, p1, m2, n2, e2, p2, Memory.mkT]; exact ⟨rfl, rfl⟩) (by simp [m0, n0, e0, p0, m1, n1, e1, p1, m2, n2, e2, p2, Memory.mkT]; rfl) (by exact markJobS_spec0 _) (by simp) (by simp [m0, n0, e0, p0, m1, n1, e1, p1, m2, n2, e2, p2, Memory.mkT]; rfl)) ?_
    refine RegO.opN 1 (by simp [m0, n0, e0, p0, m1, n1, e1, p1, m2, n2, e2, p2, Memory.mkT]; rfl) ?_
    refine RegO.nil ?_
    first
      | refine DW.norm [(1, _), (2, _)] [(0, _), (2, _)] [(5, _), (6, _), (7, _)] (by simp [m0, n0, e0, p0, m1, n1, e1, p1, m2, n2, e2, p2, Memory.mkT]; exact ⟨rfl, rfl⟩) (by simp [m0, n0, e0, p0, m1, n1, e1, p1, m2, n2, e2, p2, Memory.mkT]; exact ⟨rfl, rfl⟩) (by simp [m0, n0, e0, p0, m1, n1, e1, p1, m2, n2, e2, p2, Memory.mkT]; exact ⟨rfl, rfl, rfl⟩) (by rfl) ?_
      | refine DW.norm [(1, _), (2, _)] [(2, _)] [] (by simp [m0, n0, e0, p0, m1, n1, e1, p1, m2, n2, e2, p2, Memory.mkT]; exact ⟨rfl, rfl⟩) (by simp [m0, n0, e0, p0, m1, n1, e1, p1, m2, n2, e2, p2, Memory.mkT]; rfl) (by simp [m0, n0, e0, p0, m1, n1, e1, p1, m2, n2, e2, p2, Memory.mkT]) (by rfl) ?_
    refine DW.seq ?_
    refine DW.regs ?_
    refine RegO.opN 3 (by simp [m0, n0, e0, p0, m1, n1, e1, p1, m2, n2, e2, p2, Memory.mkT]; rfl) ?_
    first
      | (refine RegO.step rfl (OpStep.callL (io := 0) rfl (by simp [m0, n0, e0, p0, m1, n1, e1, p1, m2, n2, e2, p2, Memory.mkT]; rfl) (markSealingS_spec _ _ u2.1 u2.2.1 u2.2.2) (by rfl) (by rfl) (by rfl) (by rfl) (by simp [lendL, FS.lend, m0, n0, e0, p0, m1, n1, e1, p1, m2, n2, e2, p2, Memory.mkT]; exact ⟨rfl, rfl⟩) (by simp [apartP]) (by simp) (by simp [m0, n0, e0, p0, m1, n1, e1, p1, m2, n2, e2, p2, Memory.mkT]; rfl) (by simp [rosOk]) (by simp) (by simp [backFS, hBack, pzsC, pzS, paCells, PC.tree, m0, n0, e0, p0, m1, n1, e1, p1, m2, n2, e2, p2, Memory.mkT]; rfl)) ?_)
      | refine RegO.step rfl (OpStep.callA rfl (by simp [m0, n0, e0, p0, m1, n1, e1, p1, m2, n2, e2, p2, Memory.mkT]; exact ⟨rfl, rfl⟩) (by simp [m0, n0, e0, p0, m1, n1, e1, p1, m2, n2, e2, p2, Memory.mkT]; rfl) (by exact markSealingS_spec0 _) (by simp) (by simp [m0, n0, e0, p0, m1, n1, e1, p1, m2, n2, e2, p2, Memory.mkT]; rfl)) ?_
    refine RegO.opN 1 (by simp [m0, n0, e0, p0, m1, n1, e1, p1, m2, n2, e2, p2, Memory.mkT]; rfl) ?_
    refine RegO.nil ?_
    first
      | refine DW.norm [(1, _), (2, _)] [(0, _), (2, _)] [(5, _), (6, _), (7, _)] (by simp [m0, n0, e0, p0, m1, n1, e1, p1, m2, n2, e2, p2, Memory.mkT]; exact ⟨rfl, rfl⟩) (by simp [m0, n0, e0, p0, m1, n1, e1, p1, m2, n2, e2, p2, Memory.mkT]; exact ⟨rfl, rfl⟩) (by simp [m0, n0, e0, p0, m1, n1, e1, p1, m2, n2, e2, p2, Memory.mkT]; exact ⟨rfl, rfl, rfl⟩) (by rfl) ?_
      | refine DW.norm [(1, _), (2, _)] [(2, _)] [] (by simp [m0, n0, e0, p0, m1, n1, e1, p1, m2, n2, e2, p2, Memory.mkT]; exact ⟨rfl, rfl⟩) (by simp [m0, n0, e0, p0, m1, n1, e1, p1, m2, n2, e2, p2, Memory.mkT]; rfl) (by simp [m0, n0, e0, p0, m1, n1, e1, p1, m2, n2, e2, p2, Memory.mkT]) (by rfl) ?_
    refine DW.seq ?_
    refine DW.reg (by simp [m0, n0, e0, p0, m1, n1, e1, p1, m2, n2, e2, p2, Memory.mkT]; rfl) ?_
    try (refine DW.ghost ((Ghost.move (id := 2) (id' := 1005) (p := [5]) (by simp; rfl) (by simp [m0, n0, e0, p0, m1, n1, e1, p1, m2, n2, e2, p2, Memory.mkT]; first | exact ⟨rfl, rfl, rfl⟩ | rfl) (by simp)).trans (Ghost.plant 1005 0 5 (by simp [m0, n0, e0, p0, m1, n1, e1, p1, m2, n2, e2, p2, Memory.mkT]; first | exact ⟨rfl, rfl, rfl⟩ | rfl) (by simp; rfl) (by simp))) ?_)
    try (refine DW.ghost ((Ghost.move (id := 2) (id' := 1006) (p := [6]) (by simp; rfl) (by simp [m0, n0, e0, p0, m1, n1, e1, p1, m2, n2, e2, p2, Memory.mkT]; first | exact ⟨rfl, rfl, rfl⟩ | rfl) (by simp)).trans (Ghost.plant 1006 0 6 (by simp [m0, n0, e0, p0, m1, n1, e1, p1, m2, n2, e2, p2, Memory.mkT]; first | exact ⟨rfl, rfl, rfl⟩ | rfl) (by simp; rfl) (by simp))) ?_)
    try (refine DW.ghost ((Ghost.move (id := 2) (id' := 1007) (p := [7]) (by simp; rfl) (by simp [m0, n0, e0, p0, m1, n1, e1, p1, m2, n2, e2, p2, Memory.mkT]; first | exact ⟨rfl, rfl, rfl⟩ | rfl) (by simp)).trans (Ghost.plant 1007 0 7 (by simp [m0, n0, e0, p0, m1, n1, e1, p1, m2, n2, e2, p2, Memory.mkT]; first | exact ⟨rfl, rfl, rfl⟩ | rfl) (by simp; rfl) (by simp))) ?_)
    refine DW.ret ?_
    simp [Tryz.results27, hTT, System.mkT, Memory.mkT, Memory.ctT, m0, n0, e0, p0, m1, n1, e1, p1, m2, n2, e2, p2, Memory.mkT, Int.add_assoc]
theorem markResult_spec (a : Result) (k : Int) (h0 : 0 < k) (h1 : k + (Result.ctT a : Int) ≤ 1152921504606846976) (h : Row.sz a ≤ 2 ^ 36) : Spec Tryz.prog 39 [maResult a, ri k] [none] [di (k + (Result.ctT a : Int))] [maResult (Result.mkT a k), ri k] := by
  refine Spec.intro Tryz.func39 rfl rfl Tryz.ntmps39 rfl (by simp) ?_
  have hz := Result_sz a
  have hT : Result.ctT a = ctL a.Names := by simp only [Result.mkT, Result.ctT]
  have u0 : 0 < k ∧ k + (ctL a.Names : Int) ≤ 1152921504606846976 ∧ szL a.Names ≤ 2 ^ 36 := ⟨by omega, by omega, by omega⟩
  have hTT : k + (Result.ctT a : Int) = k + (ctL a.Names : Int) := by omega
  obtain ⟨a_Code, a_Text, a_Size, a_Dir, a_Names⟩ := a
  simp only at *
  rcases nil_or_pos' a_Names with ⟨m0, n0, e0, p0, rfl⟩ | ⟨m0, n0, e0, p0, -⟩
  all_goals
    refine DW.ghost (Ghost.empty 0) ?_
    refine DW.seq ?_
    refine DW.regs ?_
    refine RegO.step rfl (OpStep.boxR rfl rfl (by decide) (by simp [m0, n0, e0, p0]; rfl) (by simp [m0, n0, e0, p0]; first | exact ⟨rfl, rfl⟩ | rfl) (by simp) (by simp)) ?_
    refine RegO.opN 1 (by simp; rfl) ?_
    refine RegO.nil ?_
    first
      | refine DW.norm [(1, _), (2, _)] [(0, _), (2, _)] [(4, _)] (by simp [m0, n0, e0, p0]; exact ⟨rfl, rfl⟩) (by simp [m0, n0, e0, p0]; exact ⟨rfl, rfl⟩) (by simp [m0, n0, e0, p0]; rfl) (by rfl) ?_
      | refine DW.norm [(1, _), (2, _)] [(2, _)] [] (by simp [m0, n0, e0, p0]; exact ⟨rfl, rfl⟩) (by simp [m0, n0, e0, p0]; rfl) (by simp [m0, n0, e0, p0]) (by rfl) ?_
    refine DW.seq ?_
    refine DW.regs ?_
    refine RegO.opN 3 (by simp [m0, n0, e0, p0]; rfl) ?_
    first
      | (refine RegO.step rfl (OpStep.callL (io := 0) rfl (by simp [m0, n0, e0, p0]; rfl) (markStringS_spec _ _ u0.1 u0.2.1 u0.2.2) (by rfl) (by rfl) (by rfl) (by rfl) (by simp [lendL, FS.lend, m0, n0, e0, p0]; exact ⟨rfl, rfl⟩) (by simp [apartP]) (by simp) (by simp [m0, n0, e0, p0]; rfl) (by simp [rosOk]) (by simp) (by simp [backFS, hBack, pzsC, pzS, paCells, PC.tree, m0, n0, e0, p0]; rfl)) ?_)
      | refine RegO.step rfl (OpStep.callA rfl (by simp [m0, n0, e0, p0]; exact ⟨rfl, rfl⟩) (by simp [m0, n0, e0, p0]; rfl) (by exact markStringS_spec0 _) (by simp) (by simp [m0, n0, e0, p0]; rfl)) ?_
    refine RegO.opN 1 (by simp [m0, n0, e0, p0]; rfl) ?_
    refine RegO.nil ?_
    first
      | refine DW.norm [(1, _), (2, _)] [(0, _), (2, _)] [(4, _)] (by simp [m0, n0, e0, p0]; exact ⟨rfl, rfl⟩) (by simp [m0, n0, e0, p0]; exact ⟨rfl, rfl⟩) (by simp [m0, n0, e0, p0]; rfl) (by rfl) ?_
      | refine DW.norm [(1, _), (2, _)] [(2, _)] [] (by simp [m0, n0, e0, p0]; exact ⟨rfl, rfl⟩) (by simp [m0, n0, e0, p0]; rfl) (by simp [m0, n0, e0, p0]) (by rfl) ?_
    refine DW.seq ?_
    refine DW.reg (by simp [m0, n0, e0, p0]; rfl) ?_
    try (refine DW.ghost ((Ghost.move (id := 2) (id' := 1004) (p := [4]) (by simp; rfl) (by simp [m0, n0, e0, p0]; first | exact ⟨rfl, rfl, rfl⟩ | rfl) (by simp)).trans (Ghost.plant 1004 0 4 (by simp [m0, n0, e0, p0]; first | exact ⟨rfl, rfl, rfl⟩ | rfl) (by simp; rfl) (by simp))) ?_)
    refine DW.ret ?_
    simp [Tryz.results39, hTT, Result.mkT, m0, n0, e0, p0]
theorem heldCellS_spec (l : List Cell) (k : Int) (h0 : 0 < k) (h1 : k + (ctL l : Int) ≤ 1152921504606846976) (h : szL l ≤ 2 ^ 36) : Spec Tryz.prog 86 [.one (.r (.sl l.length (rR (mkL l k)))), ri k] [none] [di (k + (ctL l : Int))] [.one (.r (.sl l.length (rR (mkL l k)))), ri k] := by
  refine Spec.intro Tryz.func86 rfl rfl Tryz.ntmps86 rfl (by simp) ?_
  have hll := szL_len l
  refine DW.seq ?_
  refine DW.reg (by simp; rfl) ?_
  refine DW.seq ?_
  refine DW.seq ?_
  refine DW.reg (by simp; rfl) ?_
  refine DW.block ?_
  refine DW.loopS (α := Nat × Int) (fun p => p.1 ≤ l.length ∧ p.2 = k + (ctL (l.take p.1) : Int)) (fun p => l.length - p.1) (fun p => [(5, vi p.1), (1, vi p.2)]) (fun p => []) [(0, _)] [] [] (0, k) (⟨Nat.zero_le _, by simp⟩) (by simp; exact rfl) (by simp) (by simp) (by rfl) ?_
  rintro ⟨i, K⟩ ⟨hi, hK⟩
  simp only at hi hK ⊢
  refine DW.seq ?_
  refine DW.seq ?_
  refine DW.reg (by simp; rfl) ?_
  refine DW.condB (by simp; exact rfl) (fun hc0 => ?_) (fun hc0 => ?_)
  · have hlt : i < l.length := by simpa using hc0
    have hd := rR_drop_Cell (mkL l k) i (by simpa using hlt)
    rw [mkL_get l k i hlt, ← hK] at hd
    have hs := szL_at l i hlt
    have hct := ctL_take l i hlt
    have hca := ctL_at l i hlt
    have hlt' : (i : Int) < l.length := by omega
    have w1 : IntKind.i64.wrap ((i : Int) + 1) = ((i + 1 : Nat) : Int) := (wr _ (by omega) (by omega)).trans (by omega)
    generalize l[i] = c at hd hs hct hca
    have hcc := Cell_ct c
    have hcs := Cell_sz c
    rw [Cell_mk] at hd
    have t0 : 0 < K ∧ K < 4611686018427387904 := ⟨by omega, by omega⟩
    have t1 : 0 < K + 1 ∧ K + 1 < 4611686018427387904 := ⟨by omega, by omega⟩
    have t2 : 0 < K + 2 ∧ K + 2 < 4611686018427387904 := ⟨by omega, by omega⟩
    obtain ⟨v1, v2, v3⟩ : IntKind.i64.wrap (K + 1) = K + 1 ∧ IntKind.i64.wrap (K + 1 + 1) = K + 2 ∧ IntKind.i64.wrap (K + 2 + 1) = K + 3 := ⟨(wr _ (by omega) (by omega)).trans (by omega), (wr _ (by omega) (by omega)).trans (by omega), (wr _ (by omega) (by omega)).trans (by omega)⟩
    refine DW.skip ?_
    refine DW.seq ?_
    refine DW.block ?_
    refine DW.seq ?_
    refine DW.seq ?_
    refine DW.reg (by simp [hd, hlt', mb]; rfl) ?_
    refine DW.condF (by simp) ?_
    refine DW.skip ?_
    refine DW.seq ?_
    refine DW.reg (by simp [v1]; rfl) ?_
    refine DW.seq ?_
    refine DW.seq ?_
    refine DW.drawn mixed (by kernel_rfl) ?_
    refine RegD.addN 6 (by simp [hd, hlt', mb]; (first | done | exact ⟨rfl, rfl⟩ | rfl)) ?_
    refine RegD.cert (Cert.callA rfl (by simp) rfl (by decide) (by simp [hd, hlt', mb]; exact ⟨rfl, rfl⟩) (by simp [hd, hlt', mb]; rfl) (by exact markText_spec _ t1.1 t1.2) rfl (by simp) (by simp; rfl) rfl) ?_
    refine RegD.addN 1 (by simp [hd, hlt', mb]; (first | done | exact ⟨rfl, rfl⟩ | rfl)) ?_
    refine RegD.nil ⟨by kernel_rfl, ?_⟩
    refine DW.condF (by simp) ?_
    refine DW.skip ?_
    refine DW.seq ?_
    refine DW.reg (by simp [v2]; rfl) ?_
    refine DW.seq ?_
    refine DW.seq ?_
    refine DW.reg (by simp [hd, hlt', mb]; rfl) ?_
    refine DW.condF (by simp) ?_
    refine DW.skip ?_
    refine DW.reg (by simp [v3]; rfl) ?_
    refine DW.reg (by simp [w1]; rfl) ?_
    clear v1 v2 v3
    exact ⟨(i + 1, K + 3), ⟨hlt, by simp only; omega⟩, by simp only; omega, by simp, by simp, by simp, by rfl⟩
  · have hil : i = l.length := by
      have : ¬ i < l.length := by simpa using hc0
      omega
    subst hil
    rw [List.take_length] at hK
    refine DW.exit ?_
    refine DW.seq ?_
    refine DW.reg (by simp; rfl) ?_
    refine DW.ret ?_
    simp [Tryz.results86, hK]
theorem heldMemory_spec (a : Memory) (k : Int) (h0 : 0 < k) (h1 : k + (Memory.ctT a : Int) ≤ 1152921504606846976) (h : Row.sz a ≤ 2 ^ 36) : Spec Tryz.prog 23 [raMemory (Memory.mkT a k), ri k] [none] [di (k + (Memory.ctT a : Int))] [raMemory (Memory.mkT a k), ri k] := by
  refine Spec.intro Tryz.func23 rfl rfl Tryz.ntmps23 rfl (by simp) ?_
  have hz := Memory_sz a
  have hT : Memory.ctT a = ctL a.Cells := by simp only [Memory.mkT, Memory.ctT]
  have u0 : 0 < k ∧ k + (ctL a.Cells : Int) ≤ 1152921504606846976 ∧ szL a.Cells ≤ 2 ^ 36 ∧ ¬ (k + (ctL a.Cells : Int) < 0) := ⟨by omega, by omega, by omega, by omega⟩
  have hr : k + (Memory.ctT a : Int) = k + (ctL a.Cells : Int) := by omega
  refine DW.seq ?_
  refine DW.reg (by simp [Memory.mkT, u0.2.2.2]; rfl) ?_
  refine DW.seq ?_
  refine DW.regs ?_
  refine RegO.opN 3 (by simp [Memory.mkT, u0.2.2.2]; rfl) ?_
  refine RegO.step rfl (OpStep.callA rfl (by simp [Memory.mkT, u0.2.2.2]; exact ⟨rfl, rfl⟩) (by simp [Memory.mkT, u0.2.2.2]; rfl) (by exact heldCellS_spec a.Cells (k) u0.1 u0.2.1 u0.2.2.1) (by simp) (by simp [Memory.mkT, u0.2.2.2]; rfl)) ?_
  refine RegO.opN 1 (by simp [Memory.mkT, u0.2.2.2]; rfl) ?_
  refine RegO.nil ?_
  refine DW.seq ?_
  refine DW.seq ?_
  refine DW.reg (by simp [Memory.mkT, u0.2.2.2]; rfl) ?_
  refine DW.condF (by simp [Memory.mkT, u0.2.2.2]) ?_
  refine DW.skip ?_
  refine DW.seq ?_
  refine DW.reg (by simp [Memory.mkT, u0.2.2.2]; rfl) ?_
  refine DW.ret ?_
  simp [Tryz.results23, hr]
theorem heldStringS_spec (l : List ByteArray) (k : Int) (h0 : 0 < k) (h1 : k + (ctL l : Int) ≤ 1152921504606846976) (h : szL l ≤ 2 ^ 36) : Spec Tryz.prog 112 [.one (.r (.sl l.length (rR (mkL l k)))), ri k] [none] [di (k + (ctL l : Int))] [.one (.r (.sl l.length (rR (mkL l k)))), ri k] := by
  refine Spec.intro Tryz.func112 rfl rfl Tryz.ntmps112 rfl (by simp) ?_
  have hll := szL_len l
  refine DW.seq ?_
  refine DW.reg (by simp; rfl) ?_
  refine DW.seq ?_
  refine DW.seq ?_
  refine DW.reg (by simp; rfl) ?_
  refine DW.block ?_
  refine DW.loopS (α := Nat × Int) (fun p => p.1 ≤ l.length ∧ p.2 = k + (ctL (l.take p.1) : Int)) (fun p => l.length - p.1) (fun p => [(5, vi p.1), (1, vi p.2)]) (fun p => []) [(0, _)] [] [] (0, k) (⟨Nat.zero_le _, by simp⟩) (by simp; exact rfl) (by simp) (by simp) (by rfl) ?_
  rintro ⟨i, K⟩ ⟨hi, hK⟩
  simp only at hi hK ⊢
  refine DW.seq ?_
  refine DW.seq ?_
  refine DW.reg (by simp; rfl) ?_
  refine DW.condB (by simp; exact rfl) (fun hc0 => ?_) (fun hc0 => ?_)
  · have hlt : i < l.length := by simpa using hc0
    have hd := rR_get_ByteArray (mkL l k) i (by simpa using hlt)
    rw [mkL_get l k i hlt, ← hK] at hd
    have hs := szL_at l i hlt
    have hct := ctL_take l i hlt
    have hca := ctL_at l i hlt
    have hlt' : (i : Int) < l.length := by omega
    have w1 : IntKind.i64.wrap ((i : Int) + 1) = ((i + 1 : Nat) : Int) := (wr _ (by omega) (by omega)).trans (by omega)
    generalize l[i] = c at hd hs hct hca
    have hcc : Row.ct c = 1 := rfl
    replace hd : (rR (mkL l k))[i]? = some (RT.sc (.string (mt K))) := hd
    have t0 : 0 < K ∧ K < 4611686018427387904 := ⟨by omega, by omega⟩
    obtain v1 : IntKind.i64.wrap (K + 1) = K + 1 := (wr _ (by omega) (by omega)).trans (by omega)
    refine DW.skip ?_
    refine DW.seq ?_
    refine DW.block ?_
    refine DW.seq ?_
    refine DW.seq ?_
    refine DW.drawn mixed (by kernel_rfl) ?_
    refine RegD.addN 5 (by simp [hd, hlt', mb]; (first | done | exact ⟨rfl, rfl⟩ | rfl)) ?_
    refine RegD.cert (Cert.callA rfl (by simp) rfl (by decide) (by simp [hd, hlt', mb]; exact ⟨rfl, rfl⟩) (by simp [hd, hlt', mb]; rfl) (by exact markText_spec _ t0.1 t0.2) rfl (by simp) (by simp; rfl) rfl) ?_
    refine RegD.addN 1 (by simp [hd, hlt', mb]; (first | done | exact ⟨rfl, rfl⟩ | rfl)) ?_
    refine RegD.nil ⟨by kernel_rfl, ?_⟩
    refine DW.condF (by simp) ?_
    refine DW.skip ?_
    refine DW.reg (by simp [v1]; rfl) ?_
    refine DW.reg (by simp [w1]; rfl) ?_
    clear v1
    exact ⟨(i + 1, K + 1), ⟨hlt, by simp only; omega⟩, by simp only; omega, by simp, by simp, by simp, by rfl⟩
  · have hil : i = l.length := by
      have : ¬ i < l.length := by simpa using hc0
      omega
    subst hil
    rw [List.take_length] at hK
    refine DW.exit ?_
    refine DW.seq ?_
    refine DW.reg (by simp; rfl) ?_
    refine DW.ret ?_
    simp [Tryz.results112, hK]
theorem heldStepS_spec (l : List Step) (k : Int) (h0 : 0 < k) (h1 : k + (ctL l : Int) ≤ 1152921504606846976) (h : szL l ≤ 2 ^ 36) : Spec Tryz.prog 18 [.one (.r (.sl l.length (rR (mkL l k)))), ri k] [none] [di (k + (ctL l : Int))] [.one (.r (.sl l.length (rR (mkL l k)))), ri k] := by
  refine Spec.intro Tryz.func18 rfl rfl Tryz.ntmps18 rfl (by simp) ?_
  have hll := szL_len l
  refine DW.seq ?_
  refine DW.reg (by simp; rfl) ?_
  refine DW.seq ?_
  refine DW.seq ?_
  refine DW.reg (by simp; rfl) ?_
  refine DW.block ?_
  refine DW.loopS (α := Nat × Int) (fun p => p.1 ≤ l.length ∧ p.2 = k + (ctL (l.take p.1) : Int)) (fun p => l.length - p.1) (fun p => [(5, vi p.1), (1, vi p.2)]) (fun p => []) [(0, _)] [] [] (0, k) (⟨Nat.zero_le _, by simp⟩) (by simp; exact rfl) (by simp) (by simp) (by rfl) ?_
  rintro ⟨i, K⟩ ⟨hi, hK⟩
  simp only at hi hK ⊢
  refine DW.seq ?_
  refine DW.seq ?_
  refine DW.reg (by simp; rfl) ?_
  refine DW.condB (by simp; exact rfl) (fun hc0 => ?_) (fun hc0 => ?_)
  · have hlt : i < l.length := by simpa using hc0
    have hd := rR_drop_Step (mkL l k) i (by simpa using hlt)
    rw [mkL_get l k i hlt, ← hK] at hd
    have hs := szL_at l i hlt
    have hct := ctL_take l i hlt
    have hca := ctL_at l i hlt
    have hlt' : (i : Int) < l.length := by omega
    have w1 : IntKind.i64.wrap ((i : Int) + 1) = ((i + 1 : Nat) : Int) := (wr _ (by omega) (by omega)).trans (by omega)
    generalize l[i] = c at hd hs hct hca
    have hcc := Step_ct c
    have hcs := Step_sz c
    rw [Step_mk] at hd
    have t0 : 0 < K ∧ K < 4611686018427387904 := ⟨by omega, by omega⟩
    have t1 : 0 < K + 1 ∧ K + 1 < 4611686018427387904 := ⟨by omega, by omega⟩
    have t2 : 0 < K + 2 ∧ K + 2 < 4611686018427387904 := ⟨by omega, by omega⟩
    obtain ⟨v1, v2, v3⟩ : IntKind.i64.wrap (K + 1) = K + 1 ∧ IntKind.i64.wrap (K + 1 + 1) = K + 2 ∧ IntKind.i64.wrap (K + 2 + 1) = K + 3 := ⟨(wr _ (by omega) (by omega)).trans (by omega), (wr _ (by omega) (by omega)).trans (by omega), (wr _ (by omega) (by omega)).trans (by omega)⟩
    refine DW.skip ?_
    refine DW.seq ?_
    refine DW.block ?_
    refine DW.seq ?_
    refine DW.seq ?_
    refine DW.reg (by simp [hd, hlt', mb]; rfl) ?_
    refine DW.condF (by simp) ?_
    refine DW.skip ?_
    refine DW.seq ?_
    refine DW.reg (by simp [v1]; rfl) ?_
    refine DW.seq ?_
    refine DW.seq ?_
    refine DW.reg (by simp [hd, hlt', mb]; rfl) ?_
    refine DW.condF (by simp) ?_
    refine DW.skip ?_
    refine DW.seq ?_
    refine DW.reg (by simp [v2]; rfl) ?_
    refine DW.seq ?_
    refine DW.seq ?_
    refine DW.drawn mixed (by kernel_rfl) ?_
    refine RegD.addN 6 (by simp [hd, hlt', mb]; (first | done | exact ⟨rfl, rfl⟩ | rfl)) ?_
    refine RegD.cert (Cert.callA rfl (by simp) rfl (by decide) (by simp [hd, hlt', mb]; exact ⟨rfl, rfl⟩) (by simp [hd, hlt', mb]; rfl) (by exact markText_spec _ t2.1 t2.2) rfl (by simp) (by simp; rfl) rfl) ?_
    refine RegD.addN 1 (by simp [hd, hlt', mb]; (first | done | exact ⟨rfl, rfl⟩ | rfl)) ?_
    refine RegD.nil ⟨by kernel_rfl, ?_⟩
    refine DW.condF (by simp) ?_
    refine DW.skip ?_
    refine DW.reg (by simp [v3]; rfl) ?_
    refine DW.reg (by simp [w1]; rfl) ?_
    clear v1 v2 v3
    exact ⟨(i + 1, K + 3), ⟨hlt, by simp only; omega⟩, by simp only; omega, by simp, by simp, by simp, by rfl⟩
  · have hil : i = l.length := by
      have : ¬ i < l.length := by simpa using hc0
      omega
    subst hil
    rw [List.take_length] at hK
    refine DW.exit ?_
    refine DW.seq ?_
    refine DW.reg (by simp; rfl) ?_
    refine DW.ret ?_
    simp [Tryz.results18, hK]
theorem heldSealingS_spec (l : List Sealing) (k : Int) (h0 : 0 < k) (h1 : k + (ctL l : Int) ≤ 1152921504606846976) (h : szL l ≤ 2 ^ 36) : Spec Tryz.prog 93 [.one (.r (.sl l.length (rR (mkL l k)))), ri k] [none] [di (k + (ctL l : Int))] [.one (.r (.sl l.length (rR (mkL l k)))), ri k] := by
  refine Spec.intro Tryz.func93 rfl rfl Tryz.ntmps93 rfl (by simp) ?_
  have hll := szL_len l
  refine DW.seq ?_
  refine DW.reg (by simp; rfl) ?_
  refine DW.seq ?_
  refine DW.seq ?_
  refine DW.reg (by simp; rfl) ?_
  refine DW.block ?_
  refine DW.loopS (α := Nat × Int) (fun p => p.1 ≤ l.length ∧ p.2 = k + (ctL (l.take p.1) : Int)) (fun p => l.length - p.1) (fun p => [(5, vi p.1), (1, vi p.2)]) (fun p => []) [(0, _)] [] [] (0, k) (⟨Nat.zero_le _, by simp⟩) (by simp; exact rfl) (by simp) (by simp) (by rfl) ?_
  rintro ⟨i, K⟩ ⟨hi, hK⟩
  simp only at hi hK ⊢
  refine DW.seq ?_
  refine DW.seq ?_
  refine DW.reg (by simp; rfl) ?_
  refine DW.condB (by simp; exact rfl) (fun hc0 => ?_) (fun hc0 => ?_)
  · have hlt : i < l.length := by simpa using hc0
    have hd := rR_drop_Sealing (mkL l k) i (by simpa using hlt)
    rw [mkL_get l k i hlt, ← hK] at hd
    have hs := szL_at l i hlt
    have hct := ctL_take l i hlt
    have hca := ctL_at l i hlt
    have hlt' : (i : Int) < l.length := by omega
    have w1 : IntKind.i64.wrap ((i : Int) + 1) = ((i + 1 : Nat) : Int) := (wr _ (by omega) (by omega)).trans (by omega)
    generalize l[i] = c at hd hs hct hca
    have hcc := Sealing_ct c
    have hcs := Sealing_sz c
    rw [Sealing_mk] at hd
    have t0 : 0 < K ∧ K < 4611686018427387904 := ⟨by omega, by omega⟩
    have t1 : 0 < K + 1 ∧ K + 1 < 4611686018427387904 := ⟨by omega, by omega⟩
    have t2 : 0 < K + 2 ∧ K + 2 < 4611686018427387904 := ⟨by omega, by omega⟩
    obtain ⟨v1, v2, v3⟩ : IntKind.i64.wrap (K + 1) = K + 1 ∧ IntKind.i64.wrap (K + 1 + 1) = K + 2 ∧ IntKind.i64.wrap (K + 2 + 1) = K + 3 := ⟨(wr _ (by omega) (by omega)).trans (by omega), (wr _ (by omega) (by omega)).trans (by omega), (wr _ (by omega) (by omega)).trans (by omega)⟩
    refine DW.skip ?_
    refine DW.seq ?_
    refine DW.block ?_
    refine DW.seq ?_
    refine DW.seq ?_
    refine DW.drawn mixed (by kernel_rfl) ?_
    refine RegD.addN 6 (by simp [hd, hlt', mb]; (first | done | exact ⟨rfl, rfl⟩ | rfl)) ?_
    refine RegD.cert (Cert.callA rfl (by simp) rfl (by decide) (by simp [hd, hlt', mb]; exact ⟨rfl, rfl⟩) (by simp [hd, hlt', mb]; rfl) (by exact markText_spec _ t0.1 t0.2) rfl (by simp) (by simp; rfl) rfl) ?_
    refine RegD.addN 1 (by simp [hd, hlt', mb]; (first | done | exact ⟨rfl, rfl⟩ | rfl)) ?_
    refine RegD.nil ⟨by kernel_rfl, ?_⟩
    refine DW.condF (by simp) ?_
    refine DW.skip ?_
    refine DW.seq ?_
    refine DW.reg (by simp [v1]; rfl) ?_
    refine DW.seq ?_
    refine DW.seq ?_
    refine DW.drawn mixed (by kernel_rfl) ?_
    refine RegD.addN 6 (by simp [hd, hlt', mb]; (first | done | exact ⟨rfl, rfl⟩ | rfl)) ?_
    refine RegD.cert (Cert.callA rfl (by simp) rfl (by decide) (by simp [hd, hlt', mb]; exact ⟨rfl, rfl⟩) (by simp [hd, hlt', mb]; rfl) (by exact markText_spec _ t1.1 t1.2) rfl (by simp) (by simp; rfl) rfl) ?_
    refine RegD.addN 1 (by simp [hd, hlt', mb]; (first | done | exact ⟨rfl, rfl⟩ | rfl)) ?_
    refine RegD.nil ⟨by kernel_rfl, ?_⟩
    refine DW.condF (by simp) ?_
    refine DW.skip ?_
    refine DW.seq ?_
    refine DW.reg (by simp [v2]; rfl) ?_
    refine DW.seq ?_
    refine DW.seq ?_
    refine DW.drawn mixed (by kernel_rfl) ?_
    refine RegD.addN 6 (by simp [hd, hlt', mb]; (first | done | exact ⟨rfl, rfl⟩ | rfl)) ?_
    refine RegD.cert (Cert.callA rfl (by simp) rfl (by decide) (by simp [hd, hlt', mb]; exact ⟨rfl, rfl⟩) (by simp [hd, hlt', mb]; rfl) (by exact markText_spec _ t2.1 t2.2) rfl (by simp) (by simp; rfl) rfl) ?_
    refine RegD.addN 1 (by simp [hd, hlt', mb]; (first | done | exact ⟨rfl, rfl⟩ | rfl)) ?_
    refine RegD.nil ⟨by kernel_rfl, ?_⟩
    refine DW.condF (by simp) ?_
    refine DW.skip ?_
    refine DW.reg (by simp [v3]; rfl) ?_
    refine DW.reg (by simp [w1]; rfl) ?_
    clear v1 v2 v3
    exact ⟨(i + 1, K + 3), ⟨hlt, by simp only; omega⟩, by simp only; omega, by simp, by simp, by simp, by rfl⟩
  · have hil : i = l.length := by
      have : ¬ i < l.length := by simpa using hc0
      omega
    subst hil
    rw [List.take_length] at hK
    refine DW.exit ?_
    refine DW.seq ?_
    refine DW.reg (by simp; rfl) ?_
    refine DW.ret ?_
    simp [Tryz.results93, hK]
theorem heldJobS_spec (l : List Job) (k : Int) (h0 : 0 < k) (h1 : k + (ctL l : Int) ≤ 1152921504606846976) (h : szL l ≤ 2 ^ 36) : Spec Tryz.prog 92 [.one (.r (.sl l.length (rR (mkL l k)))), ri k] [none] [di (k + (ctL l : Int))] [.one (.r (.sl l.length (rR (mkL l k)))), ri k] := by
  refine Spec.intro Tryz.func92 rfl rfl Tryz.ntmps92 rfl (by simp) ?_
  have hll := szL_len l
  refine DW.seq ?_
  refine DW.reg (by simp; rfl) ?_
  refine DW.seq ?_
  refine DW.seq ?_
  refine DW.reg (by simp; rfl) ?_
  refine DW.block ?_
  refine DW.loopS (α := Nat × Int) (fun p => p.1 ≤ l.length ∧ p.2 = k + (ctL (l.take p.1) : Int)) (fun p => l.length - p.1) (fun p => [(5, vi p.1), (1, vi p.2)]) (fun p => []) [(0, _)] [] [] (0, k) (⟨Nat.zero_le _, by simp⟩) (by simp; exact rfl) (by simp) (by simp) (by rfl) ?_
  rintro ⟨i, K⟩ ⟨hi, hK⟩
  simp only at hi hK ⊢
  refine DW.seq ?_
  refine DW.seq ?_
  refine DW.reg (by simp; rfl) ?_
  refine DW.condB (by simp; exact rfl) (fun hc0 => ?_) (fun hc0 => ?_)
  · have hlt : i < l.length := by simpa using hc0
    have hd := rR_drop_Job (mkL l k) i (by simpa using hlt)
    rw [mkL_get l k i hlt, ← hK] at hd
    have hs := szL_at l i hlt
    have hct := ctL_take l i hlt
    have hca := ctL_at l i hlt
    have hlt' : (i : Int) < l.length := by omega
    have w1 : IntKind.i64.wrap ((i : Int) + 1) = ((i + 1 : Nat) : Int) := (wr _ (by omega) (by omega)).trans (by omega)
    generalize l[i] = c at hd hs hct hca
    have hcc := Job_ct c
    have hcs := Job_sz c
    rw [Job_mk] at hd
    have hn0 := Ask_sz c.Ask
    have hn1 := Result_sz c.Result
    have t0 : 0 < K ∧ K < 4611686018427387904 := ⟨by omega, by omega⟩
    have t1 : 0 < K + 1 ∧ K + 1 < 4611686018427387904 := ⟨by omega, by omega⟩
    have t2 : 0 < K + 2 ∧ K + 2 < 4611686018427387904 := ⟨by omega, by omega⟩
    have t3 : 0 < K + 3 ∧ K + 3 < 4611686018427387904 := ⟨by omega, by omega⟩
    have t4 : 0 < K + 4 ∧ K + 4 < 4611686018427387904 := ⟨by omega, by omega⟩
    have t5 : 0 < K + 5 ∧ K + 5 < 4611686018427387904 := ⟨by omega, by omega⟩
    have t6 : 0 < K + 6 ∧ K + 6 < 4611686018427387904 := ⟨by omega, by omega⟩
    have t7 : 0 < K + 7 ∧ K + 7 < 4611686018427387904 := ⟨by omega, by omega⟩
    have t8 : 0 < K + 8 ∧ K + 8 < 4611686018427387904 := ⟨by omega, by omega⟩
    have t9 : 0 < K + 9 ∧ K + 9 < 4611686018427387904 := ⟨by omega, by omega⟩
    have u1 : 0 < K + 10 ∧ K + 10 + (ctL c.Result.Names : Int) ≤ 1152921504606846976 ∧ szL c.Result.Names ≤ 2 ^ 36 ∧ ¬ (K + 10 + (ctL c.Result.Names : Int) < 0) := ⟨by omega, by omega, by omega, by omega⟩
    have u2 : 0 < K + 10 + (ctL c.Result.Names : Int) ∧ K + 10 + (ctL c.Result.Names : Int) + (ctL c.Steps : Int) ≤ 1152921504606846976 ∧ szL c.Steps ≤ 2 ^ 36 ∧ ¬ (K + 10 + (ctL c.Result.Names : Int) + (ctL c.Steps : Int) < 0) := ⟨by omega, by omega, by omega, by omega⟩
    have u3 : 0 < K + 10 + (ctL c.Result.Names : Int) + (ctL c.Steps : Int) ∧ K + 10 + (ctL c.Result.Names : Int) + (ctL c.Steps : Int) + (ctL c.Seals : Int) ≤ 1152921504606846976 ∧ szL c.Seals ≤ 2 ^ 36 ∧ ¬ (K + 10 + (ctL c.Result.Names : Int) + (ctL c.Steps : Int) + (ctL c.Seals : Int) < 0) := ⟨by omega, by omega, by omega, by omega⟩
    have t10 : 0 < K + 10 + (ctL c.Result.Names : Int) + (ctL c.Steps : Int) + (ctL c.Seals : Int) ∧ K + 10 + (ctL c.Result.Names : Int) + (ctL c.Steps : Int) + (ctL c.Seals : Int) < 4611686018427387904 := ⟨by omega, by omega⟩
    have t11 : 0 < K + 11 + (ctL c.Result.Names : Int) + (ctL c.Steps : Int) + (ctL c.Seals : Int) ∧ K + 11 + (ctL c.Result.Names : Int) + (ctL c.Steps : Int) + (ctL c.Seals : Int) < 4611686018427387904 := ⟨by omega, by omega⟩
    have t12 : 0 < K + 12 + (ctL c.Result.Names : Int) + (ctL c.Steps : Int) + (ctL c.Seals : Int) ∧ K + 12 + (ctL c.Result.Names : Int) + (ctL c.Steps : Int) + (ctL c.Seals : Int) < 4611686018427387904 := ⟨by omega, by omega⟩
    obtain ⟨v1, v2, v3, v4, v5, v6, v7, v8, v9, v10, v11, v12, v13⟩ : IntKind.i64.wrap (K + 1) = K + 1 ∧ IntKind.i64.wrap (K + 1 + 1) = K + 2 ∧ IntKind.i64.wrap (K + 2 + 1) = K + 3 ∧ IntKind.i64.wrap (K + 3 + 1) = K + 4 ∧ IntKind.i64.wrap (K + 4 + 1) = K + 5 ∧ IntKind.i64.wrap (K + 5 + 1) = K + 6 ∧ IntKind.i64.wrap (K + 6 + 1) = K + 7 ∧ IntKind.i64.wrap (K + 7 + 1) = K + 8 ∧ IntKind.i64.wrap (K + 8 + 1) = K + 9 ∧ IntKind.i64.wrap (K + 9 + 1) = K + 10 ∧ IntKind.i64.wrap (K + 10 + (ctL c.Result.Names : Int) + (ctL c.Steps : Int) + (ctL c.Seals : Int) + 1) = K + 11 + (ctL c.Result.Names : Int) + (ctL c.Steps : Int) + (ctL c.Seals : Int) ∧ IntKind.i64.wrap (K + 11 + (ctL c.Result.Names : Int) + (ctL c.Steps : Int) + (ctL c.Seals : Int) + 1) = K + 12 + (ctL c.Result.Names : Int) + (ctL c.Steps : Int) + (ctL c.Seals : Int) ∧ IntKind.i64.wrap (K + 12 + (ctL c.Result.Names : Int) + (ctL c.Steps : Int) + (ctL c.Seals : Int) + 1) = K + 13 + (ctL c.Result.Names : Int) + (ctL c.Steps : Int) + (ctL c.Seals : Int) := ⟨(wr _ (by omega) (by omega)).trans (by omega), (wr _ (by omega) (by omega)).trans (by omega), (wr _ (by omega) (by omega)).trans (by omega), (wr _ (by omega) (by omega)).trans (by omega), (wr _ (by omega) (by omega)).trans (by omega), (wr _ (by omega) (by omega)).trans (by omega), (wr _ (by omega) (by omega)).trans (by omega), (wr _ (by omega) (by omega)).trans (by omega), (wr _ (by omega) (by omega)).trans (by omega), (wr _ (by omega) (by omega)).trans (by omega), (wr _ (by omega) (by omega)).trans (by omega), (wr _ (by omega) (by omega)).trans (by omega), (wr _ (by omega) (by omega)).trans (by omega)⟩
    have z1 := u1.2.2.2
    have z2 := u2.2.2.2
    have z3 := u3.2.2.2
    refine DW.skip ?_
    refine DW.seq ?_
    refine DW.block ?_
    refine DW.seq ?_
    refine DW.seq ?_
    refine DW.reg (by simp [hd, hlt', mb]; rfl) ?_
    refine DW.condF (by simp) ?_
    refine DW.skip ?_
    refine DW.seq ?_
    refine DW.reg (by simp [v1]; rfl) ?_
    refine DW.seq ?_
    refine DW.seq ?_
    refine DW.drawn mixed (by kernel_rfl) ?_
    refine RegD.addN 7 (by simp [hd, hlt', mb]; (first | done | exact ⟨rfl, rfl⟩ | rfl)) ?_
    refine RegD.cert (Cert.callA rfl (by simp) rfl (by decide) (by simp [hd, hlt', mb]; exact ⟨rfl, rfl⟩) (by simp [hd, hlt', mb]; rfl) (by exact markText_spec _ t1.1 t1.2) rfl (by simp) (by simp; rfl) rfl) ?_
    refine RegD.addN 1 (by simp [hd, hlt', mb]; (first | done | exact ⟨rfl, rfl⟩ | rfl)) ?_
    refine RegD.nil ⟨by kernel_rfl, ?_⟩
    refine DW.condF (by simp) ?_
    refine DW.skip ?_
    refine DW.seq ?_
    refine DW.reg (by simp [v2]; rfl) ?_
    refine DW.seq ?_
    refine DW.seq ?_
    refine DW.drawn mixed (by kernel_rfl) ?_
    refine RegD.addN 7 (by simp [hd, hlt', mb]; (first | done | exact ⟨rfl, rfl⟩ | rfl)) ?_
    refine RegD.cert (Cert.callA rfl (by simp) rfl (by decide) (by simp [hd, hlt', mb]; exact ⟨rfl, rfl⟩) (by simp [hd, hlt', mb]; rfl) (by exact markText_spec _ t2.1 t2.2) rfl (by simp) (by simp; rfl) rfl) ?_
    refine RegD.addN 1 (by simp [hd, hlt', mb]; (first | done | exact ⟨rfl, rfl⟩ | rfl)) ?_
    refine RegD.nil ⟨by kernel_rfl, ?_⟩
    refine DW.condF (by simp) ?_
    refine DW.skip ?_
    refine DW.seq ?_
    refine DW.reg (by simp [v3]; rfl) ?_
    refine DW.seq ?_
    refine DW.seq ?_
    refine DW.reg (by simp [hd, hlt', mb]; rfl) ?_
    refine DW.condF (by simp) ?_
    refine DW.skip ?_
    refine DW.seq ?_
    refine DW.reg (by simp [v4]; rfl) ?_
    refine DW.seq ?_
    refine DW.seq ?_
    refine DW.reg (by simp [hd, hlt', mb]; rfl) ?_
    refine DW.condF (by simp) ?_
    refine DW.skip ?_
    refine DW.seq ?_
    refine DW.reg (by simp [v5]; rfl) ?_
    refine DW.seq ?_
    refine DW.seq ?_
    refine DW.drawn mixed (by kernel_rfl) ?_
    refine RegD.addN 7 (by simp [hd, hlt', mb]; (first | done | exact ⟨rfl, rfl⟩ | rfl)) ?_
    refine RegD.cert (Cert.callA rfl (by simp) rfl (by decide) (by simp [hd, hlt', mb]; exact ⟨rfl, rfl⟩) (by simp [hd, hlt', mb]; rfl) (by exact markText_spec _ t5.1 t5.2) rfl (by simp) (by simp; rfl) rfl) ?_
    refine RegD.addN 1 (by simp [hd, hlt', mb]; (first | done | exact ⟨rfl, rfl⟩ | rfl)) ?_
    refine RegD.nil ⟨by kernel_rfl, ?_⟩
    refine DW.condF (by simp) ?_
    refine DW.skip ?_
    refine DW.seq ?_
    refine DW.reg (by simp [v6]; rfl) ?_
    refine DW.seq ?_
    refine DW.seq ?_
    refine DW.reg (by simp [hd, hlt', mb]; rfl) ?_
    refine DW.condF (by simp) ?_
    refine DW.skip ?_
    refine DW.seq ?_
    refine DW.reg (by simp [v7]; rfl) ?_
    refine DW.seq ?_
    refine DW.seq ?_
    refine DW.drawn mixed (by kernel_rfl) ?_
    refine RegD.addN 7 (by simp [hd, hlt', mb]; (first | done | exact ⟨rfl, rfl⟩ | rfl)) ?_
    refine RegD.cert (Cert.callA rfl (by simp) rfl (by decide) (by simp [hd, hlt', mb]; exact ⟨rfl, rfl⟩) (by simp [hd, hlt', mb]; rfl) (by exact markText_spec _ t7.1 t7.2) rfl (by simp) (by simp; rfl) rfl) ?_
    refine RegD.addN 1 (by simp [hd, hlt', mb]; (first | done | exact ⟨rfl, rfl⟩ | rfl)) ?_
    refine RegD.nil ⟨by kernel_rfl, ?_⟩
    refine DW.condF (by simp) ?_
    refine DW.skip ?_
    refine DW.seq ?_
    refine DW.reg (by simp [v8]; rfl) ?_
    refine DW.seq ?_
    refine DW.seq ?_
    refine DW.reg (by simp [hd, hlt', mb]; rfl) ?_
    refine DW.condF (by simp) ?_
    refine DW.skip ?_
    refine DW.seq ?_
    refine DW.reg (by simp [v9]; rfl) ?_
    refine DW.seq ?_
    refine DW.seq ?_
    refine DW.reg (by simp [hd, hlt', mb]; rfl) ?_
    refine DW.condF (by simp) ?_
    refine DW.skip ?_
    refine DW.seq ?_
    refine DW.reg (by simp [v10]; rfl) ?_
    refine DW.seq ?_
    refine DW.regs ?_
    refine RegO.opN 7 (by simp [hd, hlt', mb]; rfl) ?_
    refine RegO.step rfl (OpStep.callA rfl (by simp [hd, hlt', mb]; exact ⟨rfl, rfl⟩) (by simp [hd, hlt', mb]; rfl) (by exact heldStringS_spec c.Result.Names (K + 10) u1.1 u1.2.1 u1.2.2.1) (by simp) (by simp [hd, hlt', mb]; rfl)) ?_
    refine RegO.opN 1 (by simp [hd, hlt', mb]; rfl) ?_
    refine RegO.nil ?_
    refine DW.seq ?_
    refine DW.seq ?_
    refine DW.reg (by simp [z1, z2, z3]; rfl) ?_
    refine DW.condF (by simp [z1, z2, z3]) ?_
    refine DW.skip ?_
    refine DW.seq ?_
    refine DW.regs ?_
    refine RegO.opN 6 (by simp [hd, hlt', mb]; rfl) ?_
    refine RegO.step rfl (OpStep.callA rfl (by simp [hd, hlt', mb]; exact ⟨rfl, rfl⟩) (by simp [hd, hlt', mb]; rfl) (by exact heldStepS_spec c.Steps (K + 10 + (ctL c.Result.Names : Int)) u2.1 u2.2.1 u2.2.2.1) (by simp) (by simp [hd, hlt', mb]; rfl)) ?_
    refine RegO.opN 1 (by simp [hd, hlt', mb]; rfl) ?_
    refine RegO.nil ?_
    refine DW.seq ?_
    refine DW.seq ?_
    refine DW.reg (by simp [z1, z2, z3]; rfl) ?_
    refine DW.condF (by simp [z1, z2, z3]) ?_
    refine DW.skip ?_
    refine DW.seq ?_
    refine DW.regs ?_
    refine RegO.opN 6 (by simp [hd, hlt', mb]; rfl) ?_
    refine RegO.step rfl (OpStep.callA rfl (by simp [hd, hlt', mb]; exact ⟨rfl, rfl⟩) (by simp [hd, hlt', mb]; rfl) (by exact heldSealingS_spec c.Seals (K + 10 + (ctL c.Result.Names : Int) + (ctL c.Steps : Int)) u3.1 u3.2.1 u3.2.2.1) (by simp) (by simp [hd, hlt', mb]; rfl)) ?_
    refine RegO.opN 1 (by simp [hd, hlt', mb]; rfl) ?_
    refine RegO.nil ?_
    refine DW.seq ?_
    refine DW.seq ?_
    refine DW.reg (by simp [z1, z2, z3]; rfl) ?_
    refine DW.condF (by simp [z1, z2, z3]) ?_
    refine DW.skip ?_
    refine DW.seq ?_
    refine DW.seq ?_
    refine DW.reg (by simp [hd, hlt', mb]; rfl) ?_
    refine DW.condF (by simp) ?_
    refine DW.skip ?_
    refine DW.seq ?_
    refine DW.reg (by simp [v11]; rfl) ?_
    refine DW.seq ?_
    refine DW.seq ?_
    refine DW.reg (by simp [hd, hlt', mb]; rfl) ?_
    refine DW.condF (by simp) ?_
    refine DW.skip ?_
    refine DW.seq ?_
    refine DW.reg (by simp [v12]; rfl) ?_
    refine DW.seq ?_
    refine DW.seq ?_
    refine DW.reg (by simp [hd, hlt', mb]; rfl) ?_
    refine DW.condF (by simp) ?_
    refine DW.skip ?_
    refine DW.reg (by simp [v13]; rfl) ?_
    refine DW.reg (by simp [w1]; rfl) ?_
    clear v1 v2 v3 v4 v5 v6 v7 v8 v9 v10 v11 v12 v13
    exact ⟨(i + 1, K + 13 + (ctL c.Result.Names : Int) + (ctL c.Steps : Int) + (ctL c.Seals : Int)), ⟨hlt, by simp only; omega⟩, by simp only; omega, by simp, by simp, by simp, by rfl⟩
  · have hil : i = l.length := by
      have : ¬ i < l.length := by simpa using hc0
      omega
    subst hil
    rw [List.take_length] at hK
    refine DW.exit ?_
    refine DW.seq ?_
    refine DW.reg (by simp; rfl) ?_
    refine DW.ret ?_
    simp [Tryz.results92, hK]
theorem heldSystem_spec (a : System) (k : Int) (h0 : 0 < k) (h1 : k + (System.ctT a : Int) ≤ 1152921504606846976) (h : Row.sz a ≤ 2 ^ 36) : Spec Tryz.prog 28 [raSystem (System.mkT a k), ri k] [none] [di (k + (System.ctT a : Int))] [raSystem (System.mkT a k), ri k] := by
  refine Spec.intro Tryz.func28 rfl rfl Tryz.ntmps28 rfl (by simp) ?_
  have hz := System_sz a
  have hT : System.ctT a = Memory.ctT a.Memory + ctL a.Jobs + ctL a.Seals := by simp only [System.mkT, System.ctT, Memory.mkT, Memory.ctT] <;> omega
  have hzGeo := Geo_sz a.Geo
  have hzMemory := Memory_sz a.Memory
  have u0 : 0 < k ∧ k + (Memory.ctT a.Memory : Int) ≤ 1152921504606846976 ∧ Row.sz a.Memory ≤ 2 ^ 36 ∧ ¬ (k + (Memory.ctT a.Memory : Int) < 0) := ⟨by omega, by omega, by omega, by omega⟩
  have u1 : 0 < k + (Memory.ctT a.Memory : Int) ∧ k + (Memory.ctT a.Memory : Int) + (ctL a.Jobs : Int) ≤ 1152921504606846976 ∧ szL a.Jobs ≤ 2 ^ 36 ∧ ¬ (k + (Memory.ctT a.Memory : Int) + (ctL a.Jobs : Int) < 0) := ⟨by omega, by omega, by omega, by omega⟩
  have u2 : 0 < k + (Memory.ctT a.Memory : Int) + (ctL a.Jobs : Int) ∧ k + (Memory.ctT a.Memory : Int) + (ctL a.Jobs : Int) + (ctL a.Seals : Int) ≤ 1152921504606846976 ∧ szL a.Seals ≤ 2 ^ 36 ∧ ¬ (k + (Memory.ctT a.Memory : Int) + (ctL a.Jobs : Int) + (ctL a.Seals : Int) < 0) := ⟨by omega, by omega, by omega, by omega⟩
  have hr : k + (System.ctT a : Int) = k + (Memory.ctT a.Memory : Int) + (ctL a.Jobs : Int) + (ctL a.Seals : Int) := by omega
  refine DW.seq ?_
  refine DW.reg (by simp [System.mkT, u0.2.2.2, u1.2.2.2, u2.2.2.2]; rfl) ?_
  refine DW.seq ?_
  refine DW.regs ?_
  refine RegO.opN 3 (by simp [System.mkT, u0.2.2.2, u1.2.2.2, u2.2.2.2]; rfl) ?_
  refine RegO.step rfl (OpStep.callA rfl (by simp [System.mkT, u0.2.2.2, u1.2.2.2, u2.2.2.2]; exact ⟨rfl, rfl⟩) (by simp [System.mkT, u0.2.2.2, u1.2.2.2, u2.2.2.2]; rfl) (by exact (by have h := heldMemory_spec a.Memory (k) u0.1 u0.2.1 u0.2.2.1; simp only [raMemory, Memory.mkT, mkL_len] at h; exact h)) (by simp) (by simp [System.mkT, u0.2.2.2, u1.2.2.2, u2.2.2.2]; rfl)) ?_
  refine RegO.opN 1 (by simp [System.mkT, u0.2.2.2, u1.2.2.2, u2.2.2.2]; rfl) ?_
  refine RegO.nil ?_
  refine DW.seq ?_
  refine DW.seq ?_
  refine DW.reg (by simp [System.mkT, u0.2.2.2, u1.2.2.2, u2.2.2.2]; rfl) ?_
  refine DW.condF (by simp [System.mkT, u0.2.2.2, u1.2.2.2, u2.2.2.2]) ?_
  refine DW.skip ?_
  refine DW.seq ?_
  refine DW.regs ?_
  refine RegO.opN 3 (by simp [System.mkT, u0.2.2.2, u1.2.2.2, u2.2.2.2]; rfl) ?_
  refine RegO.step rfl (OpStep.callA rfl (by simp [System.mkT, u0.2.2.2, u1.2.2.2, u2.2.2.2]; exact ⟨rfl, rfl⟩) (by simp [System.mkT, u0.2.2.2, u1.2.2.2, u2.2.2.2]; rfl) (by exact heldJobS_spec a.Jobs (k + (Memory.ctT a.Memory : Int)) u1.1 u1.2.1 u1.2.2.1) (by simp) (by simp [System.mkT, u0.2.2.2, u1.2.2.2, u2.2.2.2]; rfl)) ?_
  refine RegO.opN 1 (by simp [System.mkT, u0.2.2.2, u1.2.2.2, u2.2.2.2]; rfl) ?_
  refine RegO.nil ?_
  refine DW.seq ?_
  refine DW.seq ?_
  refine DW.reg (by simp [System.mkT, u0.2.2.2, u1.2.2.2, u2.2.2.2]; rfl) ?_
  refine DW.condF (by simp [System.mkT, u0.2.2.2, u1.2.2.2, u2.2.2.2]) ?_
  refine DW.skip ?_
  refine DW.seq ?_
  refine DW.regs ?_
  refine RegO.opN 3 (by simp [System.mkT, u0.2.2.2, u1.2.2.2, u2.2.2.2]; rfl) ?_
  refine RegO.step rfl (OpStep.callA rfl (by simp [System.mkT, u0.2.2.2, u1.2.2.2, u2.2.2.2]; exact ⟨rfl, rfl⟩) (by simp [System.mkT, u0.2.2.2, u1.2.2.2, u2.2.2.2]; rfl) (by exact heldSealingS_spec a.Seals (k + (Memory.ctT a.Memory : Int) + (ctL a.Jobs : Int)) u2.1 u2.2.1 u2.2.2.1) (by simp) (by simp [System.mkT, u0.2.2.2, u1.2.2.2, u2.2.2.2]; rfl)) ?_
  refine RegO.opN 1 (by simp [System.mkT, u0.2.2.2, u1.2.2.2, u2.2.2.2]; rfl) ?_
  refine RegO.nil ?_
  refine DW.seq ?_
  refine DW.seq ?_
  refine DW.reg (by simp [System.mkT, u0.2.2.2, u1.2.2.2, u2.2.2.2]; rfl) ?_
  refine DW.condF (by simp [System.mkT, u0.2.2.2, u1.2.2.2, u2.2.2.2]) ?_
  refine DW.skip ?_
  refine DW.seq ?_
  refine DW.reg (by simp [System.mkT, u0.2.2.2, u1.2.2.2, u2.2.2.2]; rfl) ?_
  refine DW.ret ?_
  simp [Tryz.results28, hr]
theorem heldResult_spec (a : Result) (k : Int) (h0 : 0 < k) (h1 : k + (Result.ctT a : Int) ≤ 1152921504606846976) (h : Row.sz a ≤ 2 ^ 36) : Spec Tryz.prog 40 [raResult (Result.mkT a k), ri k] [none] [di (k + (Result.ctT a : Int))] [raResult (Result.mkT a k), ri k] := by
  refine Spec.intro Tryz.func40 rfl rfl Tryz.ntmps40 rfl (by simp) ?_
  have hz := Result_sz a
  have hT : Result.ctT a = ctL a.Names := by simp only [Result.mkT, Result.ctT]
  have u0 : 0 < k ∧ k + (ctL a.Names : Int) ≤ 1152921504606846976 ∧ szL a.Names ≤ 2 ^ 36 ∧ ¬ (k + (ctL a.Names : Int) < 0) := ⟨by omega, by omega, by omega, by omega⟩
  have hr : k + (Result.ctT a : Int) = k + (ctL a.Names : Int) := by omega
  refine DW.seq ?_
  refine DW.reg (by simp [Result.mkT, u0.2.2.2]; rfl) ?_
  refine DW.seq ?_
  refine DW.regs ?_
  refine RegO.opN 3 (by simp [Result.mkT, u0.2.2.2]; rfl) ?_
  refine RegO.step rfl (OpStep.callA rfl (by simp [Result.mkT, u0.2.2.2]; exact ⟨rfl, rfl⟩) (by simp [Result.mkT, u0.2.2.2]; rfl) (by exact heldStringS_spec a.Names (k) u0.1 u0.2.1 u0.2.2.1) (by simp) (by simp [Result.mkT, u0.2.2.2]; rfl)) ?_
  refine RegO.opN 1 (by simp [Result.mkT, u0.2.2.2]; rfl) ?_
  refine RegO.nil ?_
  refine DW.seq ?_
  refine DW.seq ?_
  refine DW.reg (by simp [Result.mkT, u0.2.2.2]; rfl) ?_
  refine DW.condF (by simp [Result.mkT, u0.2.2.2]) ?_
  refine DW.skip ?_
  refine DW.seq ?_
  refine DW.reg (by simp [Result.mkT, u0.2.2.2]; rfl) ?_
  refine DW.ret ?_
  simp [Tryz.results40, hr]
end Go.Proofs.YtjjdjkkhhcbogaaGreat.DM
