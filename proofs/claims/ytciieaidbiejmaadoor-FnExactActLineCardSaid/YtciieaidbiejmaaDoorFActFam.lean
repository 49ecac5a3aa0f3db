import Derived.Test.YtciieaidbiejmaaDoorFData
namespace Go.Proofs.YtciieaidbiejmaaDoor.DM
set_option linter.unusedVariables false
set_option linter.unusedSimpArgs false
set_option maxRecDepth 4000
set_option maxHeartbeats 8000000
theorem markText_spec (k1 : Int) (h0 : 0 < k1) (h1 : k1 < 4611686018427387904) : Spec Tryd.prog 71 [ri k1] [none] [ds (mt k1)] [ri k1] := by
  refine Spec.intro Tryd.func71 rfl rfl Tryd.ntmps71 rfl (by simp) ?_
  obtain ⟨k0, rfl⟩ := Int.eq_ofNat_of_zero_le (show 0 ≤ k1 by omega)
  have h0n : ¬ (k0 : Int) ≤ 0 := by omega
  have h0m : ¬ k0 = 0 := by omega
  refine DW.seq ?_
  refine DW.reg (by simp; rfl) ?_
  refine DW.seq ?_
  refine DW.seq ?_
  refine DW.reg (by simp [h0n, h0m]; rfl) ?_
  refine DW.condF (by simp [h0n, h0m]) ?_
  refine DW.skip ?_
  refine DW.seq ?_
  refine DW.reg (by simp; rfl) ?_
  refine DW.seq ?_
  refine DW.block ?_
  refine DW.loopS (α := Nat × ByteArray) (fun p => p.1 ≤ k0 ∧ mtB p.1 p.2 = mtB k0 ByteArray.empty ∧ p.2.size + p.1 ≤ k0) (fun p => p.1) (fun p => [(0, vi p.1), (3, vs p.2)]) (fun p => []) [] [] [] (k0, ByteArray.empty) (⟨Nat.le_refl _, rfl, by simp⟩) (by simp) (by simp) (by simp) (by rfl) ?_
  rintro ⟨k, acc⟩ ⟨hk, hm, hs⟩
  simp only at hk hm hs ⊢
  refine DW.seq ?_
  refine DW.seq ?_
  refine DW.reg (by simp; rfl) ?_
  refine DW.condB (by simp; exact rfl) (fun hc1 => ?_) (fun hc1 => ?_)
  · have hp : 0 < k := by simpa using hc1
    have wd : IntKind.i64.wrap (48 + (k : Int).tmod 10) = ((48 + k % 10 : Nat) : Int) := by
      have e : (k : Int).tmod 10 = ((k % 10 : Nat) : Int) := by rw [Int.tmod_eq_emod_of_nonneg (by omega)]; omega
      rw [e, wr _ (by omega) (by omega)]; omega
    have hu : IntKind.u8.wrap (48 + (k : Int) % 10) = ((dg k).toNat : Int) := by
      have e1 : (dg k).toNat = 48 + k % 10 := by unfold dg; simp; omega
      rw [e1]; simp [IntKind.wrap, IntKind.bits, IntKind.signed]; omega
    have hz : (⟨#[dg k]⟩ ++ acc : ByteArray).size + k / 10 ≤ k0 := by rw [ByteArray.size_append]; show 1 + acc.size + k / 10 ≤ _; omega
    have hsz : ¬ ((9223372036854775807 : Int) < ((⟨#[dg k]⟩ : ByteArray).size : Int) + acc.size) := by show ¬ ((9223372036854775807 : Int) < ((1 : Nat) : Int) + acc.size); omega
    have hq : IntKind.i64.wrap ((k : Int) / 10) = (k : Int) / 10 := wr _ (by omega) (by omega)
    refine DW.skip ?_
    refine DW.block ?_
    refine DW.seq ?_
    refine DW.regs ?_
    refine RegO.opN 5 (by simp [wd]; rfl) ?_
    refine RegO.step rfl (OpStep.bytesStr (n := 1) (l := [dg k]) rfl rfl (by decide) (by simp; rfl) (by simp) (by simp) (by simp [rowLen]) (by simp [hu]; exact ⟨rfl, rfl⟩)) ?_
    refine RegO.opN 3 (by simp [hsz]; rfl) ?_
    refine RegO.nil ?_
    refine DW.reg (by simp [hq]; rfl) ?_
    exact ⟨(k / 10, ⟨#[dg k]⟩ ++ acc), ⟨by omega, by rw [← hm]; conv => rhs; rw [mtB, dif_pos hp], hz⟩, by simp; omega, by simp [hq], by simp, by simp, by rfl⟩
  · have hk0 : k = 0 := by
      have : ¬ 0 < k := by simpa using hc1
      omega
    subst hk0
    rw [mtB, dif_neg (by omega)] at hm
    have hsz : ¬ ((9223372036854775807 : Int) < ((⟨#[109]⟩ : ByteArray).size : Int) + acc.size) := by show ¬ ((9223372036854775807 : Int) < ((1 : Nat) : Int) + acc.size); omega
    refine DW.exit ?_
    refine DW.seq ?_
    refine DW.reg (by simp [hsz]; rfl) ?_
    refine DW.ret ?_
    simp [Tryd.results71, mt, ← hm]
theorem szAsk_spec (a : Ask) (left : Int) (h0 : 0 ≤ left) (h1 : left ≤ 1099511627776) (ho : Row.ok 281474976710656 a) : Spec Tryd.prog 10 [raAsk a, ri left] [none] [di (szr (left - (Row.sz a : Int)))] [raAsk a, ri left] := by
  refine Spec.intro Tryd.func10 rfl rfl Tryd.ntmps10 rfl (by simp) ?_
  have hz := Ask_sz a
  rw [Ask_ok] at ho
  obtain ⟨_, o0, o1, _, _, o2⟩ := ho
  have w0 : IntKind.i64.wrap (left - (a.Path.size : Int)) = left - (a.Path.size : Int) := wr _ (by omega) (by omega)
  refine DW.seq ?_
  refine DW.reg (by simp [w0]; rfl) ?_
  refine DW.seq ?_
  refine DW.reg (by simp [w0]; rfl) ?_
  refine DW.seq ?_
  refine DW.seq ?_
  refine DW.reg (by simp [w0]; rfl) ?_
  refine DW.condB (by simp [w0]; exact rfl) (fun hc0 => ?_) (fun hc0 => ?_)
  · have q0 : True := trivial
    have w1 : True := trivial
    have hn0 : left - (a.Path.size : Int) < 0 := by simpa using hc0
    have hr : szr (left - (Row.sz a : Int)) = -1 := szr_neg (by omega)
    refine DW.seq ?_
    refine DW.reg (by simp [q0, w0, w1]; rfl) ?_
    refine DW.ret ?_
    simp [Tryd.results10, hr]
  · have hn0 : ¬ (left - (a.Path.size : Int) < 0) := by simpa using hc0
    have q0 : szr (left - (a.Path.size : Int)) = left - (a.Path.size : Int) := szr_pos (by omega)
    have w1 : IntKind.i64.wrap (left - (a.Path.size : Int) - (a.To.size : Int)) = left - (a.Path.size : Int) - (a.To.size : Int) := wr _ (by omega) (by omega)
    refine DW.skip ?_
    refine DW.seq ?_
    refine DW.reg (by simp [q0, w0, w1]; rfl) ?_
    refine DW.seq ?_
    refine DW.seq ?_
    refine DW.reg (by simp [q0, w0, w1]; rfl) ?_
    refine DW.condB (by simp [q0, w0, w1]; exact rfl) (fun hc1 => ?_) (fun hc1 => ?_)
    · have q1 : True := trivial
      have w2 : True := trivial
      have hn1 : left - (a.Path.size : Int) - (a.To.size : Int) < 0 := by simpa using hc1
      have hr : szr (left - (Row.sz a : Int)) = -1 := szr_neg (by omega)
      refine DW.seq ?_
      refine DW.reg (by simp [q0, q1, w0, w1, w2]; rfl) ?_
      refine DW.ret ?_
      simp [Tryd.results10, hr]
    · have hn1 : ¬ (left - (a.Path.size : Int) - (a.To.size : Int) < 0) := by simpa using hc1
      have q1 : szr (left - (a.Path.size : Int) - (a.To.size : Int)) = left - (a.Path.size : Int) - (a.To.size : Int) := szr_pos (by omega)
      have w2 : IntKind.i64.wrap (left - (a.Path.size : Int) - (a.To.size : Int) - (a.Text.size : Int)) = left - (a.Path.size : Int) - (a.To.size : Int) - (a.Text.size : Int) := wr _ (by omega) (by omega)
      refine DW.skip ?_
      refine DW.seq ?_
      refine DW.reg (by simp [q0, q1, w0, w1, w2]; rfl) ?_
      refine DW.seq ?_
      refine DW.seq ?_
      refine DW.reg (by simp [q0, q1, w0, w1, w2]; rfl) ?_
      refine DW.condB (by simp [q0, q1, w0, w1, w2]; exact rfl) (fun hc2 => ?_) (fun hc2 => ?_)
      · have q2 : True := trivial
        have w3 : True := trivial
        have hn2 : left - (a.Path.size : Int) - (a.To.size : Int) - (a.Text.size : Int) < 0 := by simpa using hc2
        have hr : szr (left - (Row.sz a : Int)) = -1 := szr_neg (by omega)
        refine DW.seq ?_
        refine DW.reg (by simp [q0, q1, q2, w0, w1, w2]; rfl) ?_
        refine DW.ret ?_
        simp [Tryd.results10, hr]
      · have hn2 : ¬ (left - (a.Path.size : Int) - (a.To.size : Int) - (a.Text.size : Int) < 0) := by simpa using hc2
        have q2 : szr (left - (a.Path.size : Int) - (a.To.size : Int) - (a.Text.size : Int)) = left - (a.Path.size : Int) - (a.To.size : Int) - (a.Text.size : Int) := szr_pos (by omega)
        have hr : szr (left - (Row.sz a : Int)) = left - (a.Path.size : Int) - (a.To.size : Int) - (a.Text.size : Int) := by rw [szr_pos (by omega)]; omega
        refine DW.skip ?_
        refine DW.seq ?_
        refine DW.reg (by simp [q0, q1, q2, w0, w1, w2]; rfl) ?_
        refine DW.ret ?_
        simp [Tryd.results10, hr]
theorem szAct_spec (a : Act) (left : Int) (h0 : 0 ≤ left) (h1 : left ≤ 1099511627776) (ho : Row.ok 281474976710656 a) : Spec Tryd.prog 14 [raAct a, ri left] [none] [di (szr (left - (Row.sz a : Int)))] [raAct a, ri left] := by
  refine Spec.intro Tryd.func14 rfl rfl Tryd.ntmps14 rfl (by simp) ?_
  have hz := Act_sz a
  rw [Act_ok] at ho
  obtain ⟨_, _, o0, _⟩ := ho
  have w0 : True := trivial
  refine DW.seq ?_
  refine DW.reg (by simp; rfl) ?_
  refine DW.seq ?_
  refine DW.regs ?_
  refine RegO.opN 3 (by simp; rfl) ?_
  refine RegO.step rfl (OpStep.callA rfl (by simp; exact ⟨rfl, rfl⟩) (by simp; rfl) (by exact szAsk_spec _ _ (by omega) (by omega) o0) (by simp) (by simp; rfl)) ?_
  refine RegO.opN 1 (by simp; rfl) ?_
  refine RegO.nil ?_
  refine DW.seq ?_
  refine DW.seq ?_
  refine DW.reg (by simp; rfl) ?_
  refine DW.condB (by simp; exact rfl) (fun hc0 => ?_) (fun hc0 => ?_)
  · have q0 : True := trivial
    have w1 : True := trivial
    have hn0 : left - (Row.sz a.Ask : Int) < 0 := by simpa using hc0
    have hr : szr (left - (Row.sz a : Int)) = -1 := szr_neg (by omega)
    refine DW.seq ?_
    refine DW.reg (by simp [q0]; rfl) ?_
    refine DW.ret ?_
    simp [Tryd.results14, hr]
  · have hn0 : ¬ (left - (Row.sz a.Ask : Int) < 0) := by simpa using hc0
    have q0 : szr (left - (Row.sz a.Ask : Int)) = left - (Row.sz a.Ask : Int) := szr_pos (by omega)
    have hr : szr (left - (Row.sz a : Int)) = left - (Row.sz a.Ask : Int) := by rw [szr_pos (by omega)]; omega
    refine DW.skip ?_
    refine DW.seq ?_
    refine DW.reg (by simp [q0]; rfl) ?_
    refine DW.ret ?_
    simp [Tryd.results14, hr]
theorem toAsk_spec (a : Ask) (h : Row.sz a ≤ 2 ^ 36) : Spec Tryd.prog 12 [raAsk a] [some 6] (Ask.d a) [raAsk a] := by
  refine Spec.intro Tryd.func12 rfl rfl Tryd.ntmps12 rfl (by simp) ?_
  have hz := Ask_sz a
  refine DW.seq ?_
  refine DW.reg (by simp; rfl) ?_
  refine DW.seq ?_
  refine DW.reg (by simp; rfl) ?_
  refine DW.seq ?_
  refine DW.reg (by simp; rfl) ?_
  refine DW.seq ?_
  refine DW.reg (by simp; rfl) ?_
  refine DW.seq ?_
  refine DW.reg (by simp; rfl) ?_
  refine DW.seq ?_
  refine DW.reg (by simp; rfl) ?_
  refine DW.seq ?_
  refine DW.reg (by simp; rfl) ?_
  refine DW.seq ?_
  refine DW.reg (by simp; rfl) ?_
  refine DW.seq ?_
  refine DW.reg (by simp; rfl) ?_
  refine DW.ret ?_
  simp [Tryd.results12]
theorem toAct_spec (a : Act) (h : Row.sz a ≤ 2 ^ 36) : Spec Tryd.prog 16 [raAct a] [some 9] (Act.d a) [raAct a] := by
  refine Spec.intro Tryd.func16 rfl rfl Tryd.ntmps16 rfl (by simp) ?_
  have hz := Act_sz a
  refine DW.seq ?_
  refine DW.reg (by simp; rfl) ?_
  refine DW.seq ?_
  refine DW.reg (by simp; rfl) ?_
  refine DW.seq ?_
  refine DW.reg (by simp; rfl) ?_
  refine DW.seq ?_
  refine DW.reg (by simp; rfl) ?_
  refine DW.seq ?_
  refine DW.regs ?_
  refine RegO.opN 2 (by simp; rfl) ?_
  refine RegO.step rfl (OpStep.callA rfl (by simp; exact ⟨rfl, rfl⟩) (by simp; rfl) (by exact toAsk_spec _ (by omega)) (by simp) (by simp; rfl)) ?_
  refine RegO.opN 2 (by simp; rfl) ?_
  refine RegO.nil ?_
  refine DW.seq ?_
  refine DW.reg (by simp; rfl) ?_
  refine DW.seq ?_
  refine DW.reg (by simp; rfl) ?_
  refine DW.ret ?_
  simp [Tryd.results16]
end Go.Proofs.YtciieaidbiejmaaDoor.DM
