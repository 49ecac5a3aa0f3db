import Derived.Test.YtjjdjkkhhcbogaaFData
namespace Go.Proofs.Ytjjdjkkhhcbogaa.DM
set_option linter.unusedVariables false
set_option linter.unusedSimpArgs false
set_option maxRecDepth 4000
set_option maxHeartbeats 8000000
theorem markText_spec (k1 : Int) (h0 : 0 < k1) (h1 : k1 < 4611686018427387904) : Spec Try.prog 75 [ri k1] [none] [ds (mt k1)] [ri k1] := by
  refine Spec.intro Try.func75 rfl rfl Try.ntmps75 rfl (by simp) ?_
  obtain ⟨k0, rfl⟩ := Int.eq_ofNat_of_zero_le (show 0 ≤ k1 by omega)
  have h0n : ¬ (k0 : Int) ≤ 0 := by omega
  have h0m : ¬ k0 = 0 := by omega
  refine DW.seq ?_
  refine DW.reg (by simp; rfl) ?_
  refine DW.seq ?_
  refine DW.seq ?_
  refine DW.reg (by simp [h0n, h0m]; rfl) ?_
  refine DW.condF (by simp [h0n, h0m]) ?_
  refine DW.skip ?_
  refine DW.seq ?_
  refine DW.reg (by simp; rfl) ?_
  refine DW.seq ?_
  refine DW.block ?_
  refine DW.loopS (α := Nat × ByteArray) (fun p => p.1 ≤ k0 ∧ mtB p.1 p.2 = mtB k0 ByteArray.empty ∧ p.2.size + p.1 ≤ k0) (fun p => p.1) (fun p => [(0, vi p.1), (3, vs p.2)]) (fun p => []) [] [] [] (k0, ByteArray.empty) (⟨Nat.le_refl _, rfl, by simp⟩) (by simp) (by simp) (by simp) (by rfl) ?_
  rintro ⟨k, acc⟩ ⟨hk, hm, hs⟩
  simp only at hk hm hs ⊢
  refine DW.seq ?_
  refine DW.seq ?_
  refine DW.reg (by simp; rfl) ?_
  refine DW.condB (by simp; exact rfl) (fun hc1 => ?_) (fun hc1 => ?_)
  · have hp : 0 < k := by simpa using hc1
    have wd : IntKind.i64.wrap (48 + (k : Int).tmod 10) = ((48 + k % 10 : Nat) : Int) := by
      have e : (k : Int).tmod 10 = ((k % 10 : Nat) : Int) := by rw [Int.tmod_eq_emod_of_nonneg (by omega)]; omega
      rw [e, wr _ (by omega) (by omega)]; omega
    have hu : IntKind.u8.wrap (48 + (k : Int) % 10) = ((dg k).toNat : Int) := by
      have e1 : (dg k).toNat = 48 + k % 10 := by unfold dg; simp; omega
      rw [e1]; simp [IntKind.wrap, IntKind.bits, IntKind.signed]; omega
    have hz : (⟨#[dg k]⟩ ++ acc : ByteArray).size + k / 10 ≤ k0 := by rw [ByteArray.size_append]; show 1 + acc.size + k / 10 ≤ _; omega
    have hsz : ¬ ((9223372036854775807 : Int) < ((⟨#[dg k]⟩ : ByteArray).size : Int) + acc.size) := by show ¬ ((9223372036854775807 : Int) < ((1 : Nat) : Int) + acc.size); omega
    have hq : IntKind.i64.wrap ((k : Int) / 10) = (k : Int) / 10 := wr _ (by omega) (by omega)
    refine DW.skip ?_
    refine DW.block ?_
    refine DW.seq ?_
    refine DW.regs ?_
    refine RegO.opN 5 (by simp [wd]; rfl) ?_
    refine RegO.step rfl (OpStep.bytesStr (n := 1) (l := [dg k]) rfl rfl (by decide) (by simp; rfl) (by simp) (by simp) (by simp [rowLen]) (by simp [hu]; exact ⟨rfl, rfl⟩)) ?_
    refine RegO.opN 3 (by simp [hsz]; rfl) ?_
    refine RegO.nil ?_
    refine DW.reg (by simp [hq]; rfl) ?_
    exact ⟨(k / 10, ⟨#[dg k]⟩ ++ acc), ⟨by omega, by rw [← hm]; conv => rhs; rw [mtB, dif_pos hp], hz⟩, by simp; omega, by simp [hq], by simp, by simp, by rfl⟩
  · have hk0 : k = 0 := by
      have : ¬ 0 < k := by simpa using hc1
      omega
    subst hk0
    rw [mtB, dif_neg (by omega)] at hm
    have hsz : ¬ ((9223372036854775807 : Int) < ((⟨#[109]⟩ : ByteArray).size : Int) + acc.size) := by show ¬ ((9223372036854775807 : Int) < ((1 : Nat) : Int) + acc.size); omega
    refine DW.exit ?_
    refine DW.seq ?_
    refine DW.reg (by simp [hsz]; rfl) ?_
    refine DW.ret ?_
    simp [Try.results75, mt, ← hm]
theorem szStringS_spec (l : List ByteArray) (left : Int) (h0 : 0 ≤ left) (h1 : left ≤ 1099511627776) (ho : okL 281474976710656 l) : Spec Try.prog 172 [ra l, ri left] [none] [di (szr (left - (szL l : Int)))] [ra l, ri left] := by
  refine Spec.intro Try.func172 rfl rfl Try.ntmps172 rfl (by simp) ?_
  have hll := szL_len l
  have hl := ho.1
  have w0 : IntKind.i64.wrap (left - (l.length : Int)) = left - (l.length : Int) := wr _ (by omega) (by omega)
  refine DW.seq ?_
  refine DW.reg (by simp [w0]; rfl) ?_
  refine DW.seq ?_
  refine DW.reg (by simp [w0]; rfl) ?_
  refine DW.seq ?_
  refine DW.seq ?_
  refine DW.reg (by simp [w0]; rfl) ?_
  refine DW.condB (by simp [w0]; exact rfl) (fun hc0 => ?_) (fun hc0 => ?_)
  · have hn : left - (l.length : Int) < 0 := by simpa using hc0
    have hr : szr (left - (szL l : Int)) = -1 := szr_neg (by omega)
    refine DW.seq ?_
    refine DW.reg (by simp [w0]; rfl) ?_
    refine DW.ret ?_
    simp [Try.results172, hr]
  · have hn : ¬ (left - (l.length : Int) < 0) := by simpa using hc0
    refine DW.skip ?_
    refine DW.seq ?_
    refine DW.seq ?_
    refine DW.reg (by simp [w0]; rfl) ?_
    refine DW.block ?_
    refine DW.loopS (α := Nat) (fun i => i ≤ l.length ∧ 0 ≤ (left - (l.length : Int) + (i : Int) - (szL (l.take i) : Int))) (fun i => l.length - i) (fun i => [(5, vi i), (1, vi (left - (l.length : Int) + (i : Int) - (szL (l.take i) : Int)))]) (fun i => []) [(0, _)] [] [] 0 (⟨by omega, by simp; omega⟩) (by simp; exact rfl) (by simp) (by simp) (by rfl) ?_
    intro i hi
    obtain ⟨hi, hp⟩ := hi
    refine DW.seq ?_
    refine DW.seq ?_
    refine DW.reg (by simp [w0]; rfl) ?_
    refine DW.condB (by simp [w0]; exact rfl) (fun hc1 => ?_) (fun hc1 => ?_)
    · have hlt : i < l.length := by simpa using hc1
      have hd := rR_get_ByteArray l i hlt
      have hs := szL_at l i hlt
      have hst := szL_take l i hlt
      have hdl := szL_len (l.drop (i + 1))
      rw [List.length_drop] at hdl
      have hoc := okL_at ho i hlt
      have hlt' : (i : Int) < l.length := by omega
      have w1 : IntKind.i64.wrap ((i : Int) + 1) = ((i + 1 : Nat) : Int) := (wr _ (by omega) (by omega)).trans (by omega)
      generalize l[i] = c at hd hs hst hoc
      have hsc : Row.sz c = c.size := rfl
      have hoc2 : c.size ≤ 281474976710656 := hoc
      have hq : IntKind.i64.wrap ((left - (l.length : Int) + (i : Int) - (szL (l.take i) : Int)) - (c.size : Int)) = (left - (l.length : Int) + ((i + 1 : Nat) : Int) - (szL (l.take (i + 1)) : Int)) := (wr _ (by omega) (by omega)).trans (by omega)
      refine DW.skip ?_
      refine DW.seq ?_
      refine DW.block ?_
      refine DW.seq ?_
      refine DW.reg (by simp [w0, hd, hlt', hq]; rfl) ?_
      refine DW.seq ?_
      refine DW.reg (by simp [w0]; rfl) ?_
      refine DW.condB (by simp [w0]; exact rfl) (fun hc2 => ?_) (fun hc2 => ?_)
      · have hn : (left - (l.length : Int) + ((i + 1 : Nat) : Int) - (szL (l.take (i + 1)) : Int)) < 0 := by simpa using hc2
        have hr : szr (left - (szL l : Int)) = -1 := szr_neg (by omega)
        refine DW.seq ?_
        refine DW.reg (by simp [w0]; rfl) ?_
        refine DW.ret ?_
        simp [Try.results172, hr]
      · have hn : ¬ ((left - (l.length : Int) + ((i + 1 : Nat) : Int) - (szL (l.take (i + 1)) : Int)) < 0) := by simpa using hc2
        refine DW.skip ?_
        refine DW.reg (by simp [w0, w1]; rfl) ?_
        exact ⟨i + 1, ⟨hlt, by omega⟩, by omega, by simp, by simp, by simp, by rfl⟩
    · have hil : i = l.length := by
        have : ¬ i < l.length := by simpa using hc1
        omega
      subst hil
      rw [List.take_length] at hp
      have hr : szr (left - (szL l : Int)) = left - (l.length : Int) + (l.length : Int) - (szL l : Int) := by rw [szr_pos (by omega)]; omega
      refine DW.exit ?_
      refine DW.seq ?_
      refine DW.reg (by simp [w0]; rfl) ?_
      refine DW.ret ?_
      simp [Try.results172, hr]
theorem szResult_spec (a : Result) (left : Int) (h0 : 0 ≤ left) (h1 : left ≤ 1099511627776) (ho : Row.ok 281474976710656 a) : Spec Try.prog 140 [raResult a, ri left] [none] [di (szr (left - (Row.sz a : Int)))] [raResult a, ri left] := by
  refine Spec.intro Try.func140 rfl rfl Try.ntmps140 rfl (by simp) ?_
  have hz := Result_sz a
  rw [Result_ok] at ho
  obtain ⟨_, o0, _, o1⟩ := ho
  have w0 : IntKind.i64.wrap (left - (a.Text.size : Int)) = left - (a.Text.size : Int) := wr _ (by omega) (by omega)
  refine DW.seq ?_
  refine DW.reg (by simp [w0]; rfl) ?_
  refine DW.seq ?_
  refine DW.reg (by simp [w0]; rfl) ?_
  refine DW.seq ?_
  refine DW.seq ?_
  refine DW.reg (by simp [w0]; rfl) ?_
  refine DW.condB (by simp [w0]; exact rfl) (fun hc0 => ?_) (fun hc0 => ?_)
  · have q0 : True := trivial
    have w1 : True := trivial
    have hn0 : left - (a.Text.size : Int) < 0 := by simpa using hc0
    have hr : szr (left - (Row.sz a : Int)) = -1 := szr_neg (by omega)
    refine DW.seq ?_
    refine DW.reg (by simp [q0, w0]; rfl) ?_
    refine DW.ret ?_
    simp [Try.results140, hr]
  · have hn0 : ¬ (left - (a.Text.size : Int) < 0) := by simpa using hc0
    have q0 : szr (left - (a.Text.size : Int)) = left - (a.Text.size : Int) := szr_pos (by omega)
    refine DW.skip ?_
    refine DW.seq ?_
    refine DW.regs ?_
    refine RegO.opN 3 (by simp [q0, w0]; rfl) ?_
    refine RegO.step rfl (OpStep.callA rfl (by simp [q0, w0]; exact ⟨rfl, rfl⟩) (by simp [q0, w0]; rfl) (by exact szStringS_spec _ _ (by omega) (by omega) o1) (by simp) (by simp [q0, w0]; rfl)) ?_
    refine RegO.opN 1 (by simp [q0, w0]; rfl) ?_
    refine RegO.nil ?_
    refine DW.seq ?_
    refine DW.seq ?_
    refine DW.reg (by simp [q0, w0]; rfl) ?_
    refine DW.condB (by simp [q0, w0]; exact rfl) (fun hc1 => ?_) (fun hc1 => ?_)
    · have q1 : True := trivial
      have w2 : True := trivial
      have hn1 : left - (a.Text.size : Int) - (szL a.Names : Int) < 0 := by simpa using hc1
      have hr : szr (left - (Row.sz a : Int)) = -1 := szr_neg (by omega)
      refine DW.seq ?_
      refine DW.reg (by simp [q0, q1, w0]; rfl) ?_
      refine DW.ret ?_
      simp [Try.results140, hr]
    · have hn1 : ¬ (left - (a.Text.size : Int) - (szL a.Names : Int) < 0) := by simpa using hc1
      have q1 : szr (left - (a.Text.size : Int) - (szL a.Names : Int)) = left - (a.Text.size : Int) - (szL a.Names : Int) := szr_pos (by omega)
      have hr : szr (left - (Row.sz a : Int)) = left - (a.Text.size : Int) - (szL a.Names : Int) := by rw [szr_pos (by omega)]; omega
      refine DW.skip ?_
      refine DW.seq ?_
      refine DW.reg (by simp [q0, q1, w0]; rfl) ?_
      refine DW.ret ?_
      simp [Try.results140, hr]
theorem szTold_spec (a : Told) (left : Int) (h0 : 0 ≤ left) (h1 : left ≤ 1099511627776) (ho : Row.ok 281474976710656 a) : Spec Try.prog 102 [raTold a, ri left] [none] [di (szr (left - (Row.sz a : Int)))] [raTold a, ri left] := by
  refine Spec.intro Try.func102 rfl rfl Try.ntmps102 rfl (by simp) ?_
  have hz := Told_sz a
  rw [Told_ok] at ho
  obtain ⟨_, _, o0⟩ := ho
  have w0 : True := trivial
  refine DW.seq ?_
  refine DW.reg (by simp; rfl) ?_
  refine DW.seq ?_
  refine DW.regs ?_
  refine RegO.opN 3 (by simp; rfl) ?_
  refine RegO.step rfl (OpStep.callA rfl (by simp; exact ⟨rfl, rfl⟩) (by simp; rfl) (by exact szResult_spec _ _ (by omega) (by omega) o0) (by simp) (by simp; rfl)) ?_
  refine RegO.opN 1 (by simp; rfl) ?_
  refine RegO.nil ?_
  refine DW.seq ?_
  refine DW.seq ?_
  refine DW.reg (by simp; rfl) ?_
  refine DW.condB (by simp; exact rfl) (fun hc0 => ?_) (fun hc0 => ?_)
  · have q0 : True := trivial
    have w1 : True := trivial
    have hn0 : left - (Row.sz a.Result : Int) < 0 := by simpa using hc0
    have hr : szr (left - (Row.sz a : Int)) = -1 := szr_neg (by omega)
    refine DW.seq ?_
    refine DW.reg (by simp [q0]; rfl) ?_
    refine DW.ret ?_
    simp [Try.results102, hr]
  · have hn0 : ¬ (left - (Row.sz a.Result : Int) < 0) := by simpa using hc0
    have q0 : szr (left - (Row.sz a.Result : Int)) = left - (Row.sz a.Result : Int) := szr_pos (by omega)
    have hr : szr (left - (Row.sz a : Int)) = left - (Row.sz a.Result : Int) := by rw [szr_pos (by omega)]; omega
    refine DW.skip ?_
    refine DW.seq ?_
    refine DW.reg (by simp [q0]; rfl) ?_
    refine DW.ret ?_
    simp [Try.results102, hr]
theorem szToldS_spec (l : List Told) (left : Int) (h0 : 0 ≤ left) (h1 : left ≤ 1099511627776) (ho : okL 281474976710656 l) : Spec Try.prog 47 [ra l, ri left] [none] [di (szr (left - (szL l : Int)))] [ra l, ri left] := by
  refine Spec.intro Try.func47 rfl rfl Try.ntmps47 rfl (by simp) ?_
  have hll := szL_len l
  have hl := ho.1
  have w0 : IntKind.i64.wrap (left - (l.length : Int)) = left - (l.length : Int) := wr _ (by omega) (by omega)
  refine DW.seq ?_
  refine DW.reg (by simp [w0]; rfl) ?_
  refine DW.seq ?_
  refine DW.reg (by simp [w0]; rfl) ?_
  refine DW.seq ?_
  refine DW.seq ?_
  refine DW.reg (by simp [w0]; rfl) ?_
  refine DW.condB (by simp [w0]; exact rfl) (fun hc0 => ?_) (fun hc0 => ?_)
  · have hn : left - (l.length : Int) < 0 := by simpa using hc0
    have hr : szr (left - (szL l : Int)) = -1 := szr_neg (by omega)
    refine DW.seq ?_
    refine DW.reg (by simp [w0]; rfl) ?_
    refine DW.ret ?_
    simp [Try.results47, hr]
  · have hn : ¬ (left - (l.length : Int) < 0) := by simpa using hc0
    refine DW.skip ?_
    refine DW.seq ?_
    refine DW.seq ?_
    refine DW.reg (by simp [w0]; rfl) ?_
    refine DW.block ?_
    refine DW.loopS (α := Nat) (fun i => i ≤ l.length ∧ 0 ≤ (left - (l.length : Int) + (i : Int) - (szL (l.take i) : Int))) (fun i => l.length - i) (fun i => [(5, vi i), (1, vi (left - (l.length : Int) + (i : Int) - (szL (l.take i) : Int)))]) (fun i => []) [(0, _)] [] [] 0 (⟨by omega, by simp; omega⟩) (by simp; exact rfl) (by simp) (by simp) (by rfl) ?_
    intro i hi
    obtain ⟨hi, hp⟩ := hi
    refine DW.seq ?_
    refine DW.seq ?_
    refine DW.reg (by simp [w0]; rfl) ?_
    refine DW.condB (by simp [w0]; exact rfl) (fun hc1 => ?_) (fun hc1 => ?_)
    · have hlt : i < l.length := by simpa using hc1
      have hd := rR_drop_Told l i hlt
      have hs := szL_at l i hlt
      have hst := szL_take l i hlt
      have hdl := szL_len (l.drop (i + 1))
      rw [List.length_drop] at hdl
      have hoc := okL_at ho i hlt
      have hlt' : (i : Int) < l.length := by omega
      have w1 : IntKind.i64.wrap ((i : Int) + 1) = ((i + 1 : Nat) : Int) := (wr _ (by omega) (by omega)).trans (by omega)
      generalize l[i] = c at hd hs hst hoc
      refine DW.skip ?_
      refine DW.seq ?_
      refine DW.block ?_
      refine DW.seq ?_
      refine DW.regs ?_
      refine RegO.opN 5 (by simp [w0, hd, hlt']; rfl) ?_
      refine RegO.step rfl (OpStep.callA rfl (by simp [w0, hd, hlt']; exact ⟨rfl, rfl⟩) (by simp [w0, hd, hlt']; rfl) (by exact szTold_spec _ _ (by omega) (by omega) hoc) (by simp) (by simp [w0, hd, hlt']; rfl)) ?_
      refine RegO.opN 1 (by simp [w0, hd, hlt']; rfl) ?_
      refine RegO.nil ?_
      refine DW.seq ?_
      refine DW.reg (by simp [w0]; rfl) ?_
      refine DW.condB (by simp [w0]; exact rfl) (fun hc2 => ?_) (fun hc2 => ?_)
      · have hn : (left - (l.length : Int) + (i : Int) - (szL (l.take i) : Int)) - (Row.sz c : Int) < 0 := by simpa using hc2
        have hr : szr (left - (szL l : Int)) = -1 := szr_neg (by omega)
        refine DW.seq ?_
        refine DW.reg (by simp [w0]; rfl) ?_
        refine DW.ret ?_
        simp [Try.results47, hr]
      · have hn : ¬ ((left - (l.length : Int) + (i : Int) - (szL (l.take i) : Int)) - (Row.sz c : Int) < 0) := by simpa using hc2
        have hq : szr ((left - (l.length : Int) + (i : Int) - (szL (l.take i) : Int)) - (Row.sz c : Int)) = (left - (l.length : Int) + ((i + 1 : Nat) : Int) - (szL (l.take (i + 1)) : Int)) := by rw [szr_pos (by omega)]; omega
        refine DW.skip ?_
        refine DW.reg (by simp [w0, w1, hq]; rfl) ?_
        exact ⟨i + 1, ⟨hlt, by omega⟩, by omega, by simp [hq], by simp, by simp, by rfl⟩
    · have hil : i = l.length := by
        have : ¬ i < l.length := by simpa using hc1
        omega
      subst hil
      rw [List.take_length] at hp
      have hr : szr (left - (szL l : Int)) = left - (l.length : Int) + (l.length : Int) - (szL l : Int) := by rw [szr_pos (by omega)]; omega
      refine DW.exit ?_
      refine DW.seq ?_
      refine DW.reg (by simp [w0]; rfl) ?_
      refine DW.ret ?_
      simp [Try.results47, hr]
theorem toStringS_spec (l : List ByteArray) (h : szL l ≤ 2 ^ 36) : Spec Try.prog 173 [ra l] [none] [dr l] [ra l] := by
  refine Spec.intro Try.func173 rfl rfl Try.ntmps173 rfl (by simp) ?_
  have hll := szL_len l
  have hb1 : (16 : Int) * l.length ≤ 281474976710656 := by omega
  have hb2 : (l.length : Int) ≤ 281474976710656 := by omega
  refine DW.seq ?_
  refine DW.reg (by simp; rfl) ?_
  refine DW.seq ?_
  refine DW.reg (by simp [hb1, hb2]; rfl) ?_
  refine DW.seq ?_
  refine DW.seq ?_
  refine DW.reg (by simp; rfl) ?_
  refine DW.block ?_
  refine DW.loopS (α := Nat) (fun i => i ≤ l.length) (fun i => l.length - i) (fun i => [(4, vi i)]) (fun i => [(7, .ow () 1 l.length (rD (l.take i) ++ List.replicate (l.length - i) (.sc (.string ByteArray.empty) : D)))]) [(0, _), (3, _)] [] [] 0 (by simp) (by simp; exact ⟨rfl, rfl⟩) (by simp) (by simp) (by rfl) ?_
  intro i hi
  refine DW.seq ?_
  refine DW.seq ?_
  refine DW.reg (by simp; rfl) ?_
  refine DW.condB (by simp; exact rfl) (fun hc0 => ?_) (fun hc0 => ?_)
  · have hlt : i < l.length := by simpa using hc0
    have hd := rR_get_ByteArray l i hlt
    have hs := szL_at l i hlt
    have hlt' : (i : Int) < l.length := by omega
    have w1 : IntKind.i64.wrap ((i : Int) + 1) = ((i + 1 : Nat) : Int) := (wr _ (by omega) (by omega)).trans (by omega)
    have hA : (rD (l.take i)).length = i := by rw [rD_len_ByteArray, List.length_take, Nat.min_eq_left (by omega)]; omega
    have hz1 : List.replicate (l.length - i) (.sc (.string ByteArray.empty) : D) = .sc (.string ByteArray.empty) :: List.replicate (l.length - (i + 1)) (.sc (.string ByteArray.empty) : D) := by rw [show l.length - i = (l.length - (i + 1)) + 1 by omega, List.replicate_succ]
    have hz2 : rD (l.take (i + 1)) = rD (l.take i) ++ Row.d l[i] := by rw [take_succ' l i hlt, rD_append]; simp [rD]
    simp only [Row.d] at hz2
    generalize l[i] = c at hd hs hz2
    refine DW.skip ?_
    refine DW.seq ?_
    refine DW.block ?_
    refine DW.reg (by simp [hd, hlt', hz1, app_get hA, app_get0 hA, app_set hA, app_set0 hA, Nat.add_assoc]; rfl) ?_
    refine DW.reg (by simp [w1]; rfl) ?_
    exact ⟨i + 1, hlt, by omega, by simp, by simp [hz2], by simp, by rfl⟩
  · have hil : i = l.length := by
      have : ¬ i < l.length := by simpa using hc0
      omega
    subst hil
    refine DW.exit ?_
    refine DW.seq ?_
    refine DW.reg (by simp; rfl) ?_
    refine DW.ret ?_
    simp [Try.results173]
theorem toResult_spec (a : Result) (h : Row.sz a ≤ 2 ^ 36) : Spec Try.prog 141 [raResult a] [some 5] (Result.d a) [raResult a] := by
  refine Spec.intro Try.func141 rfl rfl Try.ntmps141 rfl (by simp) ?_
  have hz := Result_sz a
  refine DW.seq ?_
  refine DW.reg (by simp; rfl) ?_
  refine DW.seq ?_
  refine DW.reg (by simp; rfl) ?_
  refine DW.seq ?_
  refine DW.reg (by simp; rfl) ?_
  refine DW.seq ?_
  refine DW.reg (by simp; rfl) ?_
  refine DW.seq ?_
  refine DW.reg (by simp; rfl) ?_
  refine DW.seq ?_
  refine DW.reg (by simp; rfl) ?_
  refine DW.seq ?_
  refine DW.regs ?_
  refine RegO.opN 2 (by simp; rfl) ?_
  refine RegO.step rfl (OpStep.callA rfl (by simp; exact ⟨rfl, rfl⟩) (by simp; rfl) (by exact toStringS_spec _ (by omega)) (by simp) (by simp; rfl)) ?_
  refine RegO.opN 2 (by simp; rfl) ?_
  refine RegO.nil ?_
  refine DW.seq ?_
  refine DW.reg (by simp; rfl) ?_
  refine DW.ret ?_
  simp [Try.results141]
theorem toTold_spec (a : Told) (h : Row.sz a ≤ 2 ^ 36) : Spec Try.prog 103 [raTold a] [some 8] (Told.d a) [raTold a] := by
  refine Spec.intro Try.func103 rfl rfl Try.ntmps103 rfl (by simp) ?_
  have hz := Told_sz a
  refine DW.seq ?_
  refine DW.reg (by simp; rfl) ?_
  refine DW.seq ?_
  refine DW.reg (by simp; rfl) ?_
  refine DW.seq ?_
  refine DW.reg (by simp; rfl) ?_
  refine DW.seq ?_
  refine DW.reg (by simp; rfl) ?_
  refine DW.seq ?_
  refine DW.reg (by simp; rfl) ?_
  refine DW.seq ?_
  refine DW.regs ?_
  refine RegO.opN 2 (by simp; rfl) ?_
  refine RegO.step rfl (OpStep.callA rfl (by simp; exact ⟨rfl, rfl⟩) (by simp; rfl) (by exact toResult_spec _ (by omega)) (by simp) (by simp; rfl)) ?_
  refine RegO.opN 2 (by simp; rfl) ?_
  refine RegO.nil ?_
  refine DW.seq ?_
  refine DW.reg (by simp; rfl) ?_
  refine DW.ret ?_
  simp [Try.results103]
theorem toToldS_spec (l : List Told) (h : szL l ≤ 2 ^ 36) : Spec Try.prog 49 [ra l] [none] [dr l] [ra l] := by
  refine Spec.intro Try.func49 rfl rfl Try.ntmps49 rfl (by simp) ?_
  have hll := szL_len l
  have hb1 : (88 : Int) * l.length ≤ 281474976710656 := by omega
  have hb2 : (l.length : Int) ≤ 281474976710656 := by omega
  refine DW.seq ?_
  refine DW.reg (by simp; rfl) ?_
  refine DW.seq ?_
  refine DW.reg (by simp [hb1, hb2]; rfl) ?_
  refine DW.seq ?_
  refine DW.seq ?_
  refine DW.reg (by simp; rfl) ?_
  refine DW.block ?_
  refine DW.loopS (α := Nat) (fun i => i ≤ l.length) (fun i => l.length - i) (fun i => [(4, vi i)]) (fun i => [(7, .ow () 8 l.length (rD (l.take i) ++ (List.replicate (l.length - i) ([.sc (.int .i64 0), .sc (.int .i64 0), .sc (.bool false), .sc (.int .i64 0), .sc (.string ByteArray.empty), .sc (.int .i64 0), .sc (.bool false), .ow () 0 0 []] : List D)).flatten))]) [(0, _), (3, _)] [] [] 0 (by simp) (by simp; exact ⟨rfl, rfl⟩) (by simp) (by simp) (by rfl) ?_
  intro i hi
  refine DW.seq ?_
  refine DW.seq ?_
  refine DW.reg (by simp; rfl) ?_
  refine DW.condB (by simp; exact rfl) (fun hc0 => ?_) (fun hc0 => ?_)
  · have hlt : i < l.length := by simpa using hc0
    have hd := rR_drop_Told l i hlt
    have hs := szL_at l i hlt
    have hlt' : (i : Int) < l.length := by omega
    have w1 : IntKind.i64.wrap ((i : Int) + 1) = ((i + 1 : Nat) : Int) := (wr _ (by omega) (by omega)).trans (by omega)
    have hA : (rD (l.take i)).length = i * 8 := by rw [rD_len_Told, List.length_take, Nat.min_eq_left (by omega)]
    have hz1 : (List.replicate (l.length - i) ([.sc (.int .i64 0), .sc (.int .i64 0), .sc (.bool false), .sc (.int .i64 0), .sc (.string ByteArray.empty), .sc (.int .i64 0), .sc (.bool false), .ow () 0 0 []] : List D)).flatten = [.sc (.int .i64 0), .sc (.int .i64 0), .sc (.bool false), .sc (.int .i64 0), .sc (.string ByteArray.empty), .sc (.int .i64 0), .sc (.bool false), .ow () 0 0 []] ++ (List.replicate (l.length - (i + 1)) ([.sc (.int .i64 0), .sc (.int .i64 0), .sc (.bool false), .sc (.int .i64 0), .sc (.string ByteArray.empty), .sc (.int .i64 0), .sc (.bool false), .ow () 0 0 []] : List D)).flatten := by rw [show l.length - i = (l.length - (i + 1)) + 1 by omega, List.replicate_succ, List.flatten_cons]
    have hz2 : rD (l.take (i + 1)) = rD (l.take i) ++ Row.d l[i] := by rw [take_succ' l i hlt, rD_append]; simp [rD]
    simp only [Row.d] at hz2
    generalize l[i] = c at hd hs hz2
    refine DW.skip ?_
    refine DW.seq ?_
    refine DW.block ?_
    refine DW.regs ?_
    refine RegO.opN 6 (by simp [hd, hlt', hz1, app_get hA, app_get0 hA, app_set hA, app_set0 hA, Nat.add_assoc]; rfl) ?_
    refine RegO.step rfl (OpStep.callA rfl (by simp [hd, hlt', hz1, app_get hA, app_get0 hA, app_set hA, app_set0 hA, Nat.add_assoc]; exact ⟨rfl, rfl⟩) (by simp [hd, hlt', hz1, app_get hA, app_get0 hA, app_set hA, app_set0 hA, Nat.add_assoc]; rfl) (by exact toTold_spec _ (by omega)) (by simp) (by simp [hd, hlt', hz1, app_get hA, app_get0 hA, app_set hA, app_set0 hA, Nat.add_assoc]; rfl)) ?_
    refine RegO.opN 2 (by simp [hd, hlt', hz1, app_get hA, app_get0 hA, app_set hA, app_set0 hA, Nat.add_assoc]; rfl) ?_
    refine RegO.nil ?_
    refine DW.reg (by simp [w1]; rfl) ?_
    exact ⟨i + 1, hlt, by omega, by simp, by simp [hz2], by simp, by rfl⟩
  · have hil : i = l.length := by
      have : ¬ i < l.length := by simpa using hc0
      omega
    subst hil
    refine DW.exit ?_
    refine DW.seq ?_
    refine DW.reg (by simp; rfl) ?_
    refine DW.ret ?_
    simp [Try.results49]
theorem eqStringS_spec (l : List ByteArray) (h : szL l ≤ 2 ^ 36) : Spec Try.prog 143 [ra l, ra l] [none] [db true] [ra l, ra l] := by
  refine Spec.intro Try.func143 rfl rfl Try.ntmps143 rfl (by simp) ?_
  have hll := szL_len l
  refine DW.seq ?_
  refine DW.reg (by simp; rfl) ?_
  refine DW.seq ?_
  refine DW.seq ?_
  refine DW.reg (by simp; rfl) ?_
  refine DW.condF (by simp) ?_
  refine DW.skip ?_
  refine DW.seq ?_
  refine DW.seq ?_
  refine DW.reg (by simp; rfl) ?_
  refine DW.block ?_
  refine DW.loopS (α := Nat) (fun i => i ≤ l.length) (fun i => l.length - i) (fun i => [(5, vi i)]) (fun i => []) [(0, _), (1, _)] [] [] 0 (by simp) (by simp; exact ⟨rfl, rfl⟩) (by simp) (by simp) (by rfl) ?_
  intro i hi
  refine DW.seq ?_
  refine DW.seq ?_
  refine DW.reg (by simp; rfl) ?_
  refine DW.condB (by simp; exact rfl) (fun hc1 => ?_) (fun hc1 => ?_)
  · have hlt : i < l.length := by simpa using hc1
    have hd := rR_get_ByteArray l i hlt
    have hs := szL_at l i hlt
    have hlt' : (i : Int) < l.length := by omega
    have w1 : IntKind.i64.wrap ((i : Int) + 1) = ((i + 1 : Nat) : Int) := (wr _ (by omega) (by omega)).trans (by omega)
    generalize l[i] = c at hd hs
    refine DW.skip ?_
    refine DW.seq ?_
    refine DW.block ?_
    refine DW.seq ?_
    refine DW.drawn mixed (by kernel_rfl) ?_
    refine RegD.addN 9 (by simp [hd, hlt']; first | exact ⟨rfl, rfl⟩ | rfl) ?_
    refine ⟨by kernel_rfl, ?_⟩
    refine DW.condF (by simp) ?_
    refine DW.skip ?_
    refine DW.reg (by simp [w1]; rfl) ?_
    exact ⟨i + 1, hlt, by omega, by simp, by simp, by simp, by rfl⟩
  · refine DW.exit ?_
    refine DW.seq ?_
    refine DW.reg (by simp; rfl) ?_
    refine DW.ret ?_
    simp [Try.results143]
theorem eqResult_spec (a : Result) (h : Row.sz a ≤ 2 ^ 36) : Spec Try.prog 105 [raResult a, raResult a] [none] [db true] [raResult a, raResult a] := by
  refine Spec.intro Try.func105 rfl rfl Try.ntmps105 rfl (by simp) ?_
  have hz := Result_sz a
  refine DW.seq ?_
  refine DW.reg (by simp; rfl) ?_
  refine DW.seq ?_
  refine DW.seq ?_
  refine DW.reg (by simp; rfl) ?_
  refine DW.condF (by simp) ?_
  refine DW.skip ?_
  refine DW.seq ?_
  refine DW.seq ?_
  refine DW.reg (by simp; rfl) ?_
  refine DW.condF (by simp) ?_
  refine DW.skip ?_
  refine DW.seq ?_
  refine DW.seq ?_
  refine DW.reg (by simp; rfl) ?_
  refine DW.condF (by simp) ?_
  refine DW.skip ?_
  refine DW.seq ?_
  refine DW.seq ?_
  refine DW.reg (by simp; rfl) ?_
  refine DW.condF (by simp) ?_
  refine DW.skip ?_
  refine DW.seq ?_
  refine DW.seq ?_
  refine DW.regs ?_
  refine RegO.opN 4 (by simp; rfl) ?_
  refine RegO.step rfl (OpStep.callA rfl (by simp; exact ⟨rfl, rfl⟩) (by simp; rfl) (by exact eqStringS_spec _ (by omega)) (by simp) (by simp; rfl)) ?_
  refine RegO.opN 1 (by simp; rfl) ?_
  refine RegO.nil ?_
  refine DW.condF (by simp) ?_
  refine DW.skip ?_
  refine DW.seq ?_
  refine DW.reg (by simp; rfl) ?_
  refine DW.ret ?_
  simp [Try.results105]
theorem eqResultS_spec (l : List Result) (h : szL l ≤ 2 ^ 36) : Spec Try.prog 51 [ra l, ra l] [none] [db true] [ra l, ra l] := by
  refine Spec.intro Try.func51 rfl rfl Try.ntmps51 rfl (by simp) ?_
  have hll := szL_len l
  refine DW.seq ?_
  refine DW.reg (by simp; rfl) ?_
  refine DW.seq ?_
  refine DW.seq ?_
  refine DW.reg (by simp; rfl) ?_
  refine DW.condF (by simp) ?_
  refine DW.skip ?_
  refine DW.seq ?_
  refine DW.seq ?_
  refine DW.reg (by simp; rfl) ?_
  refine DW.block ?_
  refine DW.loopS (α := Nat) (fun i => i ≤ l.length) (fun i => l.length - i) (fun i => [(5, vi i)]) (fun i => []) [(0, _), (1, _)] [] [] 0 (by simp) (by simp; exact ⟨rfl, rfl⟩) (by simp) (by simp) (by rfl) ?_
  intro i hi
  refine DW.seq ?_
  refine DW.seq ?_
  refine DW.reg (by simp; rfl) ?_
  refine DW.condB (by simp; exact rfl) (fun hc1 => ?_) (fun hc1 => ?_)
  · have hlt : i < l.length := by simpa using hc1
    have hd := rR_drop_Result l i hlt
    have hs := szL_at l i hlt
    have hlt' : (i : Int) < l.length := by omega
    have w1 : IntKind.i64.wrap ((i : Int) + 1) = ((i + 1 : Nat) : Int) := (wr _ (by omega) (by omega)).trans (by omega)
    generalize l[i] = c at hd hs
    refine DW.skip ?_
    refine DW.seq ?_
    refine DW.block ?_
    refine DW.seq ?_
    refine DW.drawn mixed (by kernel_rfl) ?_
    refine RegD.addN 8 (by simp [hd, hlt']; first | exact ⟨rfl, rfl⟩ | rfl) ?_
    refine RegD.cert (Cert.callA rfl (by simp) rfl (by decide) (by simp [hd, hlt']; exact ⟨rfl, rfl⟩) (by simp [hd, hlt']; rfl) (by exact eqResult_spec _ (by omega)) rfl (by simp) (by simp; rfl) rfl) ?_
    refine RegD.addN 1 (by simp [hd, hlt']; first | exact ⟨rfl, rfl⟩ | rfl) ?_
    refine ⟨by kernel_rfl, ?_⟩
    refine DW.condF (by simp) ?_
    refine DW.skip ?_
    refine DW.reg (by simp [w1]; rfl) ?_
    exact ⟨i + 1, hlt, by omega, by simp, by simp, by simp, by rfl⟩
  · refine DW.exit ?_
    refine DW.seq ?_
    refine DW.reg (by simp; rfl) ?_
    refine DW.ret ?_
    simp [Try.results51]
theorem eqTold_spec (a : Told) (h : Row.sz a ≤ 2 ^ 36) : Spec Try.prog 106 [raTold a, raTold a] [none] [db true] [raTold a, raTold a] := by
  refine Spec.intro Try.func106 rfl rfl Try.ntmps106 rfl (by simp) ?_
  have hz := Told_sz a
  refine DW.seq ?_
  refine DW.reg (by simp; rfl) ?_
  refine DW.seq ?_
  refine DW.seq ?_
  refine DW.reg (by simp; rfl) ?_
  refine DW.condF (by simp) ?_
  refine DW.skip ?_
  refine DW.seq ?_
  refine DW.seq ?_
  refine DW.reg (by simp; rfl) ?_
  refine DW.condF (by simp) ?_
  refine DW.skip ?_
  refine DW.seq ?_
  refine DW.seq ?_
  refine DW.reg (by simp; rfl) ?_
  refine DW.condF (by simp) ?_
  refine DW.skip ?_
  refine DW.seq ?_
  refine DW.seq ?_
  refine DW.regs ?_
  refine RegO.opN 4 (by simp; rfl) ?_
  refine RegO.step rfl (OpStep.callA rfl (by simp; exact ⟨rfl, rfl⟩) (by simp; rfl) (by exact eqResult_spec _ (by omega)) (by simp) (by simp; rfl)) ?_
  refine RegO.opN 1 (by simp; rfl) ?_
  refine RegO.nil ?_
  refine DW.condF (by simp) ?_
  refine DW.skip ?_
  refine DW.seq ?_
  refine DW.reg (by simp; rfl) ?_
  refine DW.ret ?_
  simp [Try.results106]
theorem eqToldS_spec (l : List Told) (h : szL l ≤ 2 ^ 36) : Spec Try.prog 52 [ra l, ra l] [none] [db true] [ra l, ra l] := by
  refine Spec.intro Try.func52 rfl rfl Try.ntmps52 rfl (by simp) ?_
  have hll := szL_len l
  refine DW.seq ?_
  refine DW.reg (by simp; rfl) ?_
  refine DW.seq ?_
  refine DW.seq ?_
  refine DW.reg (by simp; rfl) ?_
  refine DW.condF (by simp) ?_
  refine DW.skip ?_
  refine DW.seq ?_
  refine DW.seq ?_
  refine DW.reg (by simp; rfl) ?_
  refine DW.block ?_
  refine DW.loopS (α := Nat) (fun i => i ≤ l.length) (fun i => l.length - i) (fun i => [(5, vi i)]) (fun i => []) [(0, _), (1, _)] [] [] 0 (by simp) (by simp; exact ⟨rfl, rfl⟩) (by simp) (by simp) (by rfl) ?_
  intro i hi
  refine DW.seq ?_
  refine DW.seq ?_
  refine DW.reg (by simp; rfl) ?_
  refine DW.condB (by simp; exact rfl) (fun hc1 => ?_) (fun hc1 => ?_)
  · have hlt : i < l.length := by simpa using hc1
    have hd := rR_drop_Told l i hlt
    have hs := szL_at l i hlt
    have hlt' : (i : Int) < l.length := by omega
    have w1 : IntKind.i64.wrap ((i : Int) + 1) = ((i + 1 : Nat) : Int) := (wr _ (by omega) (by omega)).trans (by omega)
    generalize l[i] = c at hd hs
    refine DW.skip ?_
    refine DW.seq ?_
    refine DW.block ?_
    refine DW.seq ?_
    refine DW.drawn mixed (by kernel_rfl) ?_
    refine RegD.addN 8 (by simp [hd, hlt']; first | exact ⟨rfl, rfl⟩ | rfl) ?_
    refine RegD.cert (Cert.callA rfl (by simp) rfl (by decide) (by simp [hd, hlt']; exact ⟨rfl, rfl⟩) (by simp [hd, hlt']; rfl) (by exact eqTold_spec _ (by omega)) rfl (by simp) (by simp; rfl) rfl) ?_
    refine RegD.addN 1 (by simp [hd, hlt']; first | exact ⟨rfl, rfl⟩ | rfl) ?_
    refine ⟨by kernel_rfl, ?_⟩
    refine DW.condF (by simp) ?_
    refine DW.skip ?_
    refine DW.reg (by simp [w1]; rfl) ?_
    exact ⟨i + 1, hlt, by omega, by simp, by simp, by simp, by rfl⟩
  · refine DW.exit ?_
    refine DW.seq ?_
    refine DW.reg (by simp; rfl) ?_
    refine DW.ret ?_
    simp [Try.results52]
theorem markStringS_spec (l : List ByteArray) (k : Int) (h0 : 0 < k) (h1 : k + (ctL l : Int) ≤ 1152921504606846976) (h : szL l ≤ 2 ^ 36) : Spec Try.prog 107 [.one (.m 1 l.length (rD l)), ri k] [none] [di (k + (ctL l : Int))] [.one (.m 1 l.length (rD (mkL l k))), ri k] := by
  refine Spec.intro Try.func107 rfl rfl Try.ntmps107 rfl (by simp) ?_
  have hll := szL_len l
  refine DW.seq ?_
  refine DW.reg (by simp; rfl) ?_
  refine DW.seq ?_
  refine DW.seq ?_
  refine DW.reg (by simp; rfl) ?_
  refine DW.block ?_
  refine DW.loopS (α := Nat × Int) (fun p => p.1 ≤ l.length ∧ p.2 = k + (ctL (l.take p.1) : Int)) (fun p => l.length - p.1) (fun p => [(5, vi p.1), (1, vi p.2)]) (fun p => [(0, .hold [.ow () 1 l.length (rD (mkL (l.take p.1) k) ++ rD (l.drop p.1))])]) [(0, _)] [] [(0, .sl 0 [0] 0 l.length)] (0, k) (⟨Nat.zero_le _, by simp⟩) (by simp; exact rfl) (by simp) (by simp) (by rfl) ?_
  rintro ⟨i, K⟩ ⟨hi, hK⟩
  simp only at hi hK ⊢
  refine DW.seq ?_
  refine DW.seq ?_
  refine DW.reg (by simp; rfl) ?_
  refine DW.condB (by simp; exact rfl) (fun hc0 => ?_) (fun hc0 => ?_)
  · have hlt : i < l.length := by simpa using hc0
    have hd := rD_dropc l i hlt
    have hs := szL_at l i hlt
    have hct := ctL_take l i hlt
    have hca := ctL_at l i hlt
    have hm := mkL_take l i k hlt
    replace hm := congrArg rD hm
    rw [rD_append, ← hK] at hm
    have hlt' : (i : Int) < l.length := by omega
    have w1 : IntKind.i64.wrap ((i : Int) + 1) = ((i + 1 : Nat) : Int) := (wr _ (by omega) (by omega)).trans (by omega)
    have hA : (rD (mkL (l.take i) k)).length = i := by rw [rD_len_ByteArray, mkL_len, List.length_take, Nat.min_eq_left (by omega)]; omega
    generalize l[i] = c at hd hs hct hca hm
    have hcc : Row.ct c = 1 := rfl
    have hm' : rD (mkL (l.take (i + 1)) k) = rD (mkL (l.take i) k) ++ [T.sc (.string (mt K))] := hm
    clear hm
    have hm := hm'
    have hd' : rD (l.drop i) = [T.sc (.string c)] ++ rD (l.drop (i + 1)) := hd
    clear hd
    have hd := hd'
    have t0 : 0 < K ∧ K < 4611686018427387904 := ⟨by omega, by omega⟩
    obtain v1 : IntKind.i64.wrap (K + 1) = K + 1 := (wr _ (by omega) (by omega)).trans (by omega)
    refine DW.skip ?_
    refine DW.seq ?_
    refine DW.block ?_
    refine DW.seq ?_
    refine DW.regs ?_
    refine RegO.opN 3 (by simp [hd, hlt', app_get hA, app_get0 hA, app_set hA, app_set0 hA, Nat.add_assoc]; rfl) ?_
    refine RegO.step rfl (OpStep.callA rfl (by simp [hd, hlt', app_get hA, app_get0 hA, app_set hA, app_set0 hA, Nat.add_assoc]; exact ⟨rfl, rfl⟩) (by simp [hd, hlt', app_get hA, app_get0 hA, app_set hA, app_set0 hA, Nat.add_assoc]; rfl) (by exact markText_spec _ t0.1 t0.2) (by simp) (by simp [hd, hlt', app_get hA, app_get0 hA, app_set hA, app_set0 hA, Nat.add_assoc]; rfl)) ?_
    refine RegO.opN 2 (by simp [hd, hlt', app_get hA, app_get0 hA, app_set hA, app_set0 hA, Nat.add_assoc]; rfl) ?_
    refine RegO.nil ?_
    refine DW.reg (by simp [v1]; rfl) ?_
    refine DW.reg (by simp [w1]; rfl) ?_
    clear v1
    exact ⟨(i + 1, K + 1), ⟨hlt, by simp only; omega⟩, by simp only; omega, by simp, by simp [hm, mb], by simp, by rfl⟩
  · have hil : i = l.length := by
      have : ¬ i < l.length := by simpa using hc0
      omega
    subst hil
    rw [List.take_length] at hK
    refine DW.exit ?_
    refine DW.seq ?_
    refine DW.reg (by simp; rfl) ?_
    refine DW.ret ?_
    simp [Try.results107, hK]
theorem markStringS_spec0 (k : Int) : Spec Try.prog 107 [.one (.r (.sl 0 [])), ri k] [none] [di k] [.one (.r (.sl 0 [])), ri k] := by
  refine Spec.intro Try.func107 rfl rfl Try.ntmps107 rfl (by simp) ?_
  refine DW.seq ?_
  refine DW.reg (by simp; rfl) ?_
  refine DW.seq ?_
  refine DW.seq ?_
  refine DW.reg (by simp; rfl) ?_
  refine DW.block ?_
  refine DW.loopS (α := Nat) (fun p => True) (fun p => p) (fun p => [(5, vi 0), (1, vi k)]) (fun p => []) [(0, _)] [] [] 0 (trivial) (by simp; exact rfl) (by simp) (by simp) (by rfl) ?_
  rintro p -
  refine DW.seq ?_
  refine DW.seq ?_
  refine DW.reg (by simp; rfl) ?_
  refine DW.condF (by simp) ?_
  refine DW.exit ?_
  refine DW.seq ?_
  refine DW.reg (by simp; rfl) ?_
  refine DW.ret ?_
  simp [Try.results107]
theorem markToldS_spec (l : List Told) (k : Int) (h0 : 0 < k) (h1 : k + (ctL l : Int) ≤ 1152921504606846976) (h : szL l ≤ 2 ^ 36) : Spec Try.prog 53 [.one (.m 8 l.length (rD l)), ri k] [none] [di (k + (ctL l : Int))] [.one (.m 8 l.length (rD (mkL l k))), ri k] := by
  refine Spec.intro Try.func53 rfl rfl Try.ntmps53 rfl (by simp) ?_
  have hll := szL_len l
  refine DW.seq ?_
  refine DW.reg (by simp; rfl) ?_
  refine DW.seq ?_
  refine DW.seq ?_
  refine DW.reg (by simp; rfl) ?_
  refine DW.block ?_
  refine DW.loopS (α := Nat × Int) (fun p => p.1 ≤ l.length ∧ p.2 = k + (ctL (l.take p.1) : Int)) (fun p => l.length - p.1) (fun p => [(5, vi p.1), (1, vi p.2)]) (fun p => [(0, .hold [.ow () 8 l.length (rD (mkL (l.take p.1) k) ++ rD (l.drop p.1))])]) [(0, _)] [] [(0, .sl 0 [0] 0 l.length)] (0, k) (⟨Nat.zero_le _, by simp⟩) (by simp; exact rfl) (by simp) (by simp) (by rfl) ?_
  rintro ⟨i, K⟩ ⟨hi, hK⟩
  simp only at hi hK ⊢
  refine DW.seq ?_
  refine DW.seq ?_
  refine DW.reg (by simp; rfl) ?_
  refine DW.condB (by simp; exact rfl) (fun hc0 => ?_) (fun hc0 => ?_)
  · have hlt : i < l.length := by simpa using hc0
    have hd := rD_dropc l i hlt
    have hs := szL_at l i hlt
    have hct := ctL_take l i hlt
    have hca := ctL_at l i hlt
    have hm := mkL_take l i k hlt
    replace hm := congrArg rD hm
    rw [rD_append, ← hK] at hm
    have hlt' : (i : Int) < l.length := by omega
    have w1 : IntKind.i64.wrap ((i : Int) + 1) = ((i + 1 : Nat) : Int) := (wr _ (by omega) (by omega)).trans (by omega)
    have hA : (rD (mkL (l.take i) k)).length = i * 8 := by rw [rD_len_Told, mkL_len, List.length_take, Nat.min_eq_left (by omega)]
    generalize l[i] = c at hd hs hct hca hm
    have hcc := Told_ct c
    have hcs := Told_sz c
    rw [Told_mk] at hm
    replace hm : rD (mkL (l.take (i + 1)) k) = rD (mkL (l.take i) k) ++ Told.d _ := hm.trans (by simp only [rD, List.flatMap_cons, List.flatMap_nil, List.append_nil]; rfl)
    replace hd : rD (l.drop i) = Told.d c ++ rD (l.drop (i + 1)) := hd
    have hn0 := Result_sz c.Result
    have t0 : 0 < K ∧ K < 4611686018427387904 := ⟨by omega, by omega⟩
    have t1 : 0 < K + 1 ∧ K + 1 < 4611686018427387904 := ⟨by omega, by omega⟩
    have t2 : 0 < K + 2 ∧ K + 2 < 4611686018427387904 := ⟨by omega, by omega⟩
    have t3 : 0 < K + 3 ∧ K + 3 < 4611686018427387904 := ⟨by omega, by omega⟩
    have t4 : 0 < K + 4 ∧ K + 4 < 4611686018427387904 := ⟨by omega, by omega⟩
    have t5 : 0 < K + 5 ∧ K + 5 < 4611686018427387904 := ⟨by omega, by omega⟩
    have t6 : 0 < K + 6 ∧ K + 6 < 4611686018427387904 := ⟨by omega, by omega⟩
    have u1 : 0 < K + 7 ∧ K + 7 + (ctL c.Result.Names : Int) ≤ 1152921504606846976 ∧ szL c.Result.Names ≤ 2 ^ 36 ∧ ¬ (K + 7 + (ctL c.Result.Names : Int) < 0) := ⟨by omega, by omega, by omega, by omega⟩
    obtain ⟨v1, v2, v3, v4, v5, v6, v7⟩ : IntKind.i64.wrap (K + 1) = K + 1 ∧ IntKind.i64.wrap (K + 1 + 1) = K + 2 ∧ IntKind.i64.wrap (K + 2 + 1) = K + 3 ∧ IntKind.i64.wrap (K + 3 + 1) = K + 4 ∧ IntKind.i64.wrap (K + 4 + 1) = K + 5 ∧ IntKind.i64.wrap (K + 5 + 1) = K + 6 ∧ IntKind.i64.wrap (K + 6 + 1) = K + 7 := ⟨(wr _ (by omega) (by omega)).trans (by omega), (wr _ (by omega) (by omega)).trans (by omega), (wr _ (by omega) (by omega)).trans (by omega), (wr _ (by omega) (by omega)).trans (by omega), (wr _ (by omega) (by omega)).trans (by omega), (wr _ (by omega) (by omega)).trans (by omega), (wr _ (by omega) (by omega)).trans (by omega)⟩
    refine DW.skip ?_
    refine DW.seq ?_
    refine DW.block ?_
    refine DW.seq ?_
    refine DW.reg (by simp [hd, hlt', app_get hA, app_get0 hA, app_set hA, app_set0 hA, Nat.add_assoc]; rfl) ?_
    refine DW.seq ?_
    refine DW.reg (by simp [v1]; rfl) ?_
    refine DW.norm [(0, _), (5, _), (1, _)] [(0, _)] [(0, _)] (by simp; exact ⟨rfl, rfl, rfl⟩) (by simp; rfl) (by simp; rfl) (by rfl) ?_
    refine DW.seq ?_
    refine DW.reg (by simp [hd, hlt', app_get hA, app_get0 hA, app_set hA, app_set0 hA, Nat.add_assoc]; rfl) ?_
    refine DW.seq ?_
    refine DW.reg (by simp [v2]; rfl) ?_
    refine DW.norm [(0, _), (5, _), (1, _)] [(0, _)] [(0, _)] (by simp; exact ⟨rfl, rfl, rfl⟩) (by simp; rfl) (by simp; rfl) (by rfl) ?_
    refine DW.seq ?_
    refine DW.reg (by simp [hd, hlt', app_get hA, app_get0 hA, app_set hA, app_set0 hA, Nat.add_assoc]; rfl) ?_
    refine DW.seq ?_
    refine DW.reg (by simp [v3]; rfl) ?_
    refine DW.norm [(0, _), (5, _), (1, _)] [(0, _)] [(0, _)] (by simp; exact ⟨rfl, rfl, rfl⟩) (by simp; rfl) (by simp; rfl) (by rfl) ?_
    refine DW.seq ?_
    refine DW.reg (by simp [hd, hlt', app_get hA, app_get0 hA, app_set hA, app_set0 hA, Nat.add_assoc]; rfl) ?_
    refine DW.seq ?_
    refine DW.reg (by simp [v4]; rfl) ?_
    refine DW.norm [(0, _), (5, _), (1, _)] [(0, _)] [(0, _)] (by simp; exact ⟨rfl, rfl, rfl⟩) (by simp; rfl) (by simp; rfl) (by rfl) ?_
    refine DW.seq ?_
    refine DW.regs ?_
    refine RegO.opN 3 (by simp [hd, hlt', app_get hA, app_get0 hA, app_set hA, app_set0 hA, Nat.add_assoc]; rfl) ?_
    refine RegO.step rfl (OpStep.callA rfl (by simp [hd, hlt', app_get hA, app_get0 hA, app_set hA, app_set0 hA, Nat.add_assoc]; exact ⟨rfl, rfl⟩) (by simp [hd, hlt', app_get hA, app_get0 hA, app_set hA, app_set0 hA, Nat.add_assoc]; rfl) (by exact markText_spec _ t4.1 t4.2) (by simp) (by simp [hd, hlt', app_get hA, app_get0 hA, app_set hA, app_set0 hA, Nat.add_assoc]; rfl)) ?_
    refine RegO.opN 4 (by simp [hd, hlt', app_get hA, app_get0 hA, app_set hA, app_set0 hA, Nat.add_assoc]; rfl) ?_
    refine RegO.nil ?_
    refine DW.seq ?_
    refine DW.reg (by simp [v5]; rfl) ?_
    refine DW.norm [(0, _), (5, _), (1, _)] [(0, _)] [(0, _)] (by simp; exact ⟨rfl, rfl, rfl⟩) (by simp; rfl) (by simp; rfl) (by rfl) ?_
    refine DW.seq ?_
    refine DW.reg (by simp [hd, hlt', app_get hA, app_get0 hA, app_set hA, app_set0 hA, Nat.add_assoc]; rfl) ?_
    refine DW.seq ?_
    refine DW.reg (by simp [v6]; rfl) ?_
    refine DW.norm [(0, _), (5, _), (1, _)] [(0, _)] [(0, _)] (by simp; exact ⟨rfl, rfl, rfl⟩) (by simp; rfl) (by simp; rfl) (by rfl) ?_
    refine DW.seq ?_
    refine DW.reg (by simp [hd, hlt', app_get hA, app_get0 hA, app_set hA, app_set0 hA, Nat.add_assoc]; rfl) ?_
    refine DW.seq ?_
    refine DW.reg (by simp [v7]; rfl) ?_
    refine DW.norm [(0, _), (5, _), (1, _)] [(0, _)] [(0, _)] (by simp; exact ⟨rfl, rfl, rfl⟩) (by simp; rfl) (by simp; rfl) (by rfl) ?_
    refine DW.regs ?_
    refine RegO.opN 7 (by simp [hd, hlt', app_get hA, app_get0 hA, app_set hA, app_set0 hA, Nat.add_assoc]; rfl) ?_
    refine RegO.step rfl (OpStep.callL (io := 0) rfl (by simp [hd, hlt', app_get hA, app_get0 hA, app_set hA, app_set0 hA, Nat.add_assoc]; rfl) (markStringS_spec c.Result.Names (K + 7) u1.1 u1.2.1 u1.2.2.1) (by rfl) (by rfl) (by rfl) (by rfl) (by simp [lendL, FS.lend, hd, hlt', app_get hA, app_get0 hA, app_set hA, app_set0 hA, Nat.add_assoc]; exact ⟨rfl, rfl⟩) (by simp) (by simp) (by simp [hd, hlt', app_get hA, app_get0 hA, app_set hA, app_set0 hA, Nat.add_assoc]; rfl) (by simp [rosOk]) (by simp) (by simp [backFS, hBack, pzsC, pzS, paCells, PC.tree, hd, hlt', app_get hA, app_get0 hA, app_set hA, app_set0 hA, Nat.add_assoc]; rfl)) ?_
    refine RegO.opN 1 (by simp [hd, hlt', app_get hA, app_get0 hA, app_set hA, app_set0 hA, Nat.add_assoc]; rfl) ?_
    refine RegO.nil ?_
    refine DW.reg (by simp [w1]; rfl) ?_
    clear v1 v2 v3 v4 v5 v6 v7
    exact ⟨(i + 1, K + 7 + (ctL c.Result.Names : Int)), ⟨hlt, by simp only; omega⟩, by simp only; omega, by simp, by simp [hm, mb], by simp, by rfl⟩
  · have hil : i = l.length := by
      have : ¬ i < l.length := by simpa using hc0
      omega
    subst hil
    rw [List.take_length] at hK
    refine DW.exit ?_
    refine DW.seq ?_
    refine DW.reg (by simp; rfl) ?_
    refine DW.ret ?_
    simp [Try.results53, hK]
theorem markToldS_spec0 (k : Int) : Spec Try.prog 53 [.one (.r (.sl 0 [])), ri k] [none] [di k] [.one (.r (.sl 0 [])), ri k] := by
  refine Spec.intro Try.func53 rfl rfl Try.ntmps53 rfl (by simp) ?_
  refine DW.seq ?_
  refine DW.reg (by simp; rfl) ?_
  refine DW.seq ?_
  refine DW.seq ?_
  refine DW.reg (by simp; rfl) ?_
  refine DW.block ?_
  refine DW.loopS (α := Nat) (fun p => True) (fun p => p) (fun p => [(5, vi 0), (1, vi k)]) (fun p => []) [(0, _)] [] [] 0 (trivial) (by simp; exact rfl) (by simp) (by simp) (by rfl) ?_
  rintro p -
  refine DW.seq ?_
  refine DW.seq ?_
  refine DW.reg (by simp; rfl) ?_
  refine DW.condF (by simp) ?_
  refine DW.exit ?_
  refine DW.seq ?_
  refine DW.reg (by simp; rfl) ?_
  refine DW.ret ?_
  simp [Try.results53]
theorem markResultS_spec (l : List Result) (k : Int) (h0 : 0 < k) (h1 : k + (ctL l : Int) ≤ 1152921504606846976) (h : szL l ≤ 2 ^ 36) : Spec Try.prog 54 [.one (.m 5 l.length (rD l)), ri k] [none] [di (k + (ctL l : Int))] [.one (.m 5 l.length (rD (mkL l k))), ri k] := by
  refine Spec.intro Try.func54 rfl rfl Try.ntmps54 rfl (by simp) ?_
  have hll := szL_len l
  refine DW.seq ?_
  refine DW.reg (by simp; rfl) ?_
  refine DW.seq ?_
  refine DW.seq ?_
  refine DW.reg (by simp; rfl) ?_
  refine DW.block ?_
  refine DW.loopS (α := Nat × Int) (fun p => p.1 ≤ l.length ∧ p.2 = k + (ctL (l.take p.1) : Int)) (fun p => l.length - p.1) (fun p => [(5, vi p.1), (1, vi p.2)]) (fun p => [(0, .hold [.ow () 5 l.length (rD (mkL (l.take p.1) k) ++ rD (l.drop p.1))])]) [(0, _)] [] [(0, .sl 0 [0] 0 l.length)] (0, k) (⟨Nat.zero_le _, by simp⟩) (by simp; exact rfl) (by simp) (by simp) (by rfl) ?_
  rintro ⟨i, K⟩ ⟨hi, hK⟩
  simp only at hi hK ⊢
  refine DW.seq ?_
  refine DW.seq ?_
  refine DW.reg (by simp; rfl) ?_
  refine DW.condB (by simp; exact rfl) (fun hc0 => ?_) (fun hc0 => ?_)
  · have hlt : i < l.length := by simpa using hc0
    have hd := rD_dropc l i hlt
    have hs := szL_at l i hlt
    have hct := ctL_take l i hlt
    have hca := ctL_at l i hlt
    have hm := mkL_take l i k hlt
    replace hm := congrArg rD hm
    rw [rD_append, ← hK] at hm
    have hlt' : (i : Int) < l.length := by omega
    have w1 : IntKind.i64.wrap ((i : Int) + 1) = ((i + 1 : Nat) : Int) := (wr _ (by omega) (by omega)).trans (by omega)
    have hA : (rD (mkL (l.take i) k)).length = i * 5 := by rw [rD_len_Result, mkL_len, List.length_take, Nat.min_eq_left (by omega)]
    generalize l[i] = c at hd hs hct hca hm
    have hcc := Result_ct c
    have hcs := Result_sz c
    rw [Result_mk] at hm
    replace hm : rD (mkL (l.take (i + 1)) k) = rD (mkL (l.take i) k) ++ Result.d _ := hm.trans (by simp only [rD, List.flatMap_cons, List.flatMap_nil, List.append_nil]; rfl)
    replace hd : rD (l.drop i) = Result.d c ++ rD (l.drop (i + 1)) := hd
    have t0 : 0 < K ∧ K < 4611686018427387904 := ⟨by omega, by omega⟩
    have t1 : 0 < K + 1 ∧ K + 1 < 4611686018427387904 := ⟨by omega, by omega⟩
    have t2 : 0 < K + 2 ∧ K + 2 < 4611686018427387904 := ⟨by omega, by omega⟩
    have t3 : 0 < K + 3 ∧ K + 3 < 4611686018427387904 := ⟨by omega, by omega⟩
    have u1 : 0 < K + 4 ∧ K + 4 + (ctL c.Names : Int) ≤ 1152921504606846976 ∧ szL c.Names ≤ 2 ^ 36 ∧ ¬ (K + 4 + (ctL c.Names : Int) < 0) := ⟨by omega, by omega, by omega, by omega⟩
    obtain ⟨v1, v2, v3, v4⟩ : IntKind.i64.wrap (K + 1) = K + 1 ∧ IntKind.i64.wrap (K + 1 + 1) = K + 2 ∧ IntKind.i64.wrap (K + 2 + 1) = K + 3 ∧ IntKind.i64.wrap (K + 3 + 1) = K + 4 := ⟨(wr _ (by omega) (by omega)).trans (by omega), (wr _ (by omega) (by omega)).trans (by omega), (wr _ (by omega) (by omega)).trans (by omega), (wr _ (by omega) (by omega)).trans (by omega)⟩
    refine DW.skip ?_
    refine DW.seq ?_
    refine DW.block ?_
    refine DW.seq ?_
    refine DW.reg (by simp [hd, hlt', app_get hA, app_get0 hA, app_set hA, app_set0 hA, Nat.add_assoc]; rfl) ?_
    refine DW.seq ?_
    refine DW.reg (by simp [v1]; rfl) ?_
    refine DW.seq ?_
    refine DW.regs ?_
    refine RegO.opN 3 (by simp [hd, hlt', app_get hA, app_get0 hA, app_set hA, app_set0 hA, Nat.add_assoc]; rfl) ?_
    refine RegO.step rfl (OpStep.callA rfl (by simp [hd, hlt', app_get hA, app_get0 hA, app_set hA, app_set0 hA, Nat.add_assoc]; exact ⟨rfl, rfl⟩) (by simp [hd, hlt', app_get hA, app_get0 hA, app_set hA, app_set0 hA, Nat.add_assoc]; rfl) (by exact markText_spec _ t1.1 t1.2) (by simp) (by simp [hd, hlt', app_get hA, app_get0 hA, app_set hA, app_set0 hA, Nat.add_assoc]; rfl)) ?_
    refine RegO.opN 3 (by simp [hd, hlt', app_get hA, app_get0 hA, app_set hA, app_set0 hA, Nat.add_assoc]; rfl) ?_
    refine RegO.nil ?_
    refine DW.seq ?_
    refine DW.reg (by simp [v2]; rfl) ?_
    refine DW.seq ?_
    refine DW.reg (by simp [hd, hlt', app_get hA, app_get0 hA, app_set hA, app_set0 hA, Nat.add_assoc]; rfl) ?_
    refine DW.seq ?_
    refine DW.reg (by simp [v3]; rfl) ?_
    refine DW.seq ?_
    refine DW.reg (by simp [hd, hlt', app_get hA, app_get0 hA, app_set hA, app_set0 hA, Nat.add_assoc]; rfl) ?_
    refine DW.seq ?_
    refine DW.reg (by simp [v4]; rfl) ?_
    refine DW.regs ?_
    refine RegO.opN 6 (by simp [hd, hlt', app_get hA, app_get0 hA, app_set hA, app_set0 hA, Nat.add_assoc]; rfl) ?_
    refine RegO.step rfl (OpStep.callL (io := 0) rfl (by simp [hd, hlt', app_get hA, app_get0 hA, app_set hA, app_set0 hA, Nat.add_assoc]; rfl) (markStringS_spec c.Names (K + 4) u1.1 u1.2.1 u1.2.2.1) (by rfl) (by rfl) (by rfl) (by rfl) (by simp [lendL, FS.lend, hd, hlt', app_get hA, app_get0 hA, app_set hA, app_set0 hA, Nat.add_assoc]; exact ⟨rfl, rfl⟩) (by simp) (by simp) (by simp [hd, hlt', app_get hA, app_get0 hA, app_set hA, app_set0 hA, Nat.add_assoc]; rfl) (by simp [rosOk]) (by simp) (by simp [backFS, hBack, pzsC, pzS, paCells, PC.tree, hd, hlt', app_get hA, app_get0 hA, app_set hA, app_set0 hA, Nat.add_assoc]; rfl)) ?_
    refine RegO.opN 1 (by simp [hd, hlt', app_get hA, app_get0 hA, app_set hA, app_set0 hA, Nat.add_assoc]; rfl) ?_
    refine RegO.nil ?_
    refine DW.reg (by simp [w1]; rfl) ?_
    clear v1 v2 v3 v4
    exact ⟨(i + 1, K + 4 + (ctL c.Names : Int)), ⟨hlt, by simp only; omega⟩, by simp only; omega, by simp, by simp [hm, mb], by simp, by rfl⟩
  · have hil : i = l.length := by
      have : ¬ i < l.length := by simpa using hc0
      omega
    subst hil
    rw [List.take_length] at hK
    refine DW.exit ?_
    refine DW.seq ?_
    refine DW.reg (by simp; rfl) ?_
    refine DW.ret ?_
    simp [Try.results54, hK]
theorem markResultS_spec0 (k : Int) : Spec Try.prog 54 [.one (.r (.sl 0 [])), ri k] [none] [di k] [.one (.r (.sl 0 [])), ri k] := by
  refine Spec.intro Try.func54 rfl rfl Try.ntmps54 rfl (by simp) ?_
  refine DW.seq ?_
  refine DW.reg (by simp; rfl) ?_
  refine DW.seq ?_
  refine DW.seq ?_
  refine DW.reg (by simp; rfl) ?_
  refine DW.block ?_
  refine DW.loopS (α := Nat) (fun p => True) (fun p => p) (fun p => [(5, vi 0), (1, vi k)]) (fun p => []) [(0, _)] [] [] 0 (trivial) (by simp; exact rfl) (by simp) (by simp) (by rfl) ?_
  rintro p -
  refine DW.seq ?_
  refine DW.seq ?_
  refine DW.reg (by simp; rfl) ?_
  refine DW.condF (by simp) ?_
  refine DW.exit ?_
  refine DW.seq ?_
  refine DW.reg (by simp; rfl) ?_
  refine DW.ret ?_
  simp [Try.results54]
theorem heldStringS_spec (l : List ByteArray) (k : Int) (h0 : 0 < k) (h1 : k + (ctL l : Int) ≤ 1152921504606846976) (h : szL l ≤ 2 ^ 36) : Spec Try.prog 108 [.one (.r (.sl l.length (rR (mkL l k)))), ri k] [none] [di (k + (ctL l : Int))] [.one (.r (.sl l.length (rR (mkL l k)))), ri k] := by
  refine Spec.intro Try.func108 rfl rfl Try.ntmps108 rfl (by simp) ?_
  have hll := szL_len l
  refine DW.seq ?_
  refine DW.reg (by simp; rfl) ?_
  refine DW.seq ?_
  refine DW.seq ?_
  refine DW.reg (by simp; rfl) ?_
  refine DW.block ?_
  refine DW.loopS (α := Nat × Int) (fun p => p.1 ≤ l.length ∧ p.2 = k + (ctL (l.take p.1) : Int)) (fun p => l.length - p.1) (fun p => [(5, vi p.1), (1, vi p.2)]) (fun p => []) [(0, _)] [] [] (0, k) (⟨Nat.zero_le _, by simp⟩) (by simp; exact rfl) (by simp) (by simp) (by rfl) ?_
  rintro ⟨i, K⟩ ⟨hi, hK⟩
  simp only at hi hK ⊢
  refine DW.seq ?_
  refine DW.seq ?_
  refine DW.reg (by simp; rfl) ?_
  refine DW.condB (by simp; exact rfl) (fun hc0 => ?_) (fun hc0 => ?_)
  · have hlt : i < l.length := by simpa using hc0
    have hd := rR_get_ByteArray (mkL l k) i (by simpa using hlt)
    rw [mkL_get l k i hlt, ← hK] at hd
    have hs := szL_at l i hlt
    have hct := ctL_take l i hlt
    have hca := ctL_at l i hlt
    have hlt' : (i : Int) < l.length := by omega
    have w1 : IntKind.i64.wrap ((i : Int) + 1) = ((i + 1 : Nat) : Int) := (wr _ (by omega) (by omega)).trans (by omega)
    generalize l[i] = c at hd hs hct hca
    have hcc : Row.ct c = 1 := rfl
    replace hd : (rR (mkL l k))[i]? = some (RT.sc (.string (mt K))) := hd
    have t0 : 0 < K ∧ K < 4611686018427387904 := ⟨by omega, by omega⟩
    obtain v1 : IntKind.i64.wrap (K + 1) = K + 1 := (wr _ (by omega) (by omega)).trans (by omega)
    refine DW.skip ?_
    refine DW.seq ?_
    refine DW.block ?_
    refine DW.seq ?_
    refine DW.seq ?_
    refine DW.drawn mixed (by kernel_rfl) ?_
    refine RegD.addN 5 (by simp [hd, hlt', mb]; first | exact ⟨rfl, rfl⟩ | rfl) ?_
    refine RegD.cert (Cert.callA rfl (by simp) rfl (by decide) (by simp [hd, hlt', mb]; exact ⟨rfl, rfl⟩) (by simp [hd, hlt', mb]; rfl) (by exact markText_spec _ t0.1 t0.2) rfl (by simp) (by simp; rfl) rfl) ?_
    refine RegD.addN 1 (by simp [hd, hlt', mb]; first | exact ⟨rfl, rfl⟩ | rfl) ?_
    refine ⟨by kernel_rfl, ?_⟩
    refine DW.condF (by simp) ?_
    refine DW.skip ?_
    refine DW.reg (by simp [v1]; rfl) ?_
    refine DW.reg (by simp [w1]; rfl) ?_
    clear v1
    exact ⟨(i + 1, K + 1), ⟨hlt, by simp only; omega⟩, by simp only; omega, by simp, by simp, by simp, by rfl⟩
  · have hil : i = l.length := by
      have : ¬ i < l.length := by simpa using hc0
      omega
    subst hil
    rw [List.take_length] at hK
    refine DW.exit ?_
    refine DW.seq ?_
    refine DW.reg (by simp; rfl) ?_
    refine DW.ret ?_
    simp [Try.results108, hK]
theorem heldResultS_spec (l : List Result) (k : Int) (h0 : 0 < k) (h1 : k + (ctL l : Int) ≤ 1152921504606846976) (h : szL l ≤ 2 ^ 36) : Spec Try.prog 55 [.one (.r (.sl l.length (rR (mkL l k)))), ri k] [none] [di (k + (ctL l : Int))] [.one (.r (.sl l.length (rR (mkL l k)))), ri k] := by
  refine Spec.intro Try.func55 rfl rfl Try.ntmps55 rfl (by simp) ?_
  have hll := szL_len l
  refine DW.seq ?_
  refine DW.reg (by simp; rfl) ?_
  refine DW.seq ?_
  refine DW.seq ?_
  refine DW.reg (by simp; rfl) ?_
  refine DW.block ?_
  refine DW.loopS (α := Nat × Int) (fun p => p.1 ≤ l.length ∧ p.2 = k + (ctL (l.take p.1) : Int)) (fun p => l.length - p.1) (fun p => [(5, vi p.1), (1, vi p.2)]) (fun p => []) [(0, _)] [] [] (0, k) (⟨Nat.zero_le _, by simp⟩) (by simp; exact rfl) (by simp) (by simp) (by rfl) ?_
  rintro ⟨i, K⟩ ⟨hi, hK⟩
  simp only at hi hK ⊢
  refine DW.seq ?_
  refine DW.seq ?_
  refine DW.reg (by simp; rfl) ?_
  refine DW.condB (by simp; exact rfl) (fun hc0 => ?_) (fun hc0 => ?_)
  · have hlt : i < l.length := by simpa using hc0
    have hd := rR_drop_Result (mkL l k) i (by simpa using hlt)
    rw [mkL_get l k i hlt, ← hK] at hd
    have hs := szL_at l i hlt
    have hct := ctL_take l i hlt
    have hca := ctL_at l i hlt
    have hlt' : (i : Int) < l.length := by omega
    have w1 : IntKind.i64.wrap ((i : Int) + 1) = ((i + 1 : Nat) : Int) := (wr _ (by omega) (by omega)).trans (by omega)
    generalize l[i] = c at hd hs hct hca
    have hcc := Result_ct c
    have hcs := Result_sz c
    rw [Result_mk] at hd
    have t0 : 0 < K ∧ K < 4611686018427387904 := ⟨by omega, by omega⟩
    have t1 : 0 < K + 1 ∧ K + 1 < 4611686018427387904 := ⟨by omega, by omega⟩
    have t2 : 0 < K + 2 ∧ K + 2 < 4611686018427387904 := ⟨by omega, by omega⟩
    have t3 : 0 < K + 3 ∧ K + 3 < 4611686018427387904 := ⟨by omega, by omega⟩
    have u1 : 0 < K + 4 ∧ K + 4 + (ctL c.Names : Int) ≤ 1152921504606846976 ∧ szL c.Names ≤ 2 ^ 36 ∧ ¬ (K + 4 + (ctL c.Names : Int) < 0) := ⟨by omega, by omega, by omega, by omega⟩
    obtain ⟨v1, v2, v3, v4⟩ : IntKind.i64.wrap (K + 1) = K + 1 ∧ IntKind.i64.wrap (K + 1 + 1) = K + 2 ∧ IntKind.i64.wrap (K + 2 + 1) = K + 3 ∧ IntKind.i64.wrap (K + 3 + 1) = K + 4 := ⟨(wr _ (by omega) (by omega)).trans (by omega), (wr _ (by omega) (by omega)).trans (by omega), (wr _ (by omega) (by omega)).trans (by omega), (wr _ (by omega) (by omega)).trans (by omega)⟩
    have z1 := u1.2.2.2
    refine DW.skip ?_
    refine DW.seq ?_
    refine DW.block ?_
    refine DW.seq ?_
    refine DW.seq ?_
    refine DW.reg (by simp [hd, hlt', mb]; rfl) ?_
    refine DW.condF (by simp) ?_
    refine DW.skip ?_
    refine DW.seq ?_
    refine DW.reg (by simp [v1]; rfl) ?_
    refine DW.seq ?_
    refine DW.seq ?_
    refine DW.drawn mixed (by kernel_rfl) ?_
    refine RegD.addN 6 (by simp [hd, hlt', mb]; first | exact ⟨rfl, rfl⟩ | rfl) ?_
    refine RegD.cert (Cert.callA rfl (by simp) rfl (by decide) (by simp [hd, hlt', mb]; exact ⟨rfl, rfl⟩) (by simp [hd, hlt', mb]; rfl) (by exact markText_spec _ t1.1 t1.2) rfl (by simp) (by simp; rfl) rfl) ?_
    refine RegD.addN 1 (by simp [hd, hlt', mb]; first | exact ⟨rfl, rfl⟩ | rfl) ?_
    refine ⟨by kernel_rfl, ?_⟩
    refine DW.condF (by simp) ?_
    refine DW.skip ?_
    refine DW.seq ?_
    refine DW.reg (by simp [v2]; rfl) ?_
    refine DW.seq ?_
    refine DW.seq ?_
    refine DW.reg (by simp [hd, hlt', mb]; rfl) ?_
    refine DW.condF (by simp) ?_
    refine DW.skip ?_
    refine DW.seq ?_
    refine DW.reg (by simp [v3]; rfl) ?_
    refine DW.seq ?_
    refine DW.seq ?_
    refine DW.reg (by simp [hd, hlt', mb]; rfl) ?_
    refine DW.condF (by simp) ?_
    refine DW.skip ?_
    refine DW.seq ?_
    refine DW.reg (by simp [v4]; rfl) ?_
    refine DW.seq ?_
    refine DW.regs ?_
    refine RegO.opN 6 (by simp [hd, hlt', mb]; rfl) ?_
    refine RegO.step rfl (OpStep.callA rfl (by simp [hd, hlt', mb]; exact ⟨rfl, rfl⟩) (by simp [hd, hlt', mb]; rfl) (by exact heldStringS_spec c.Names (K + 4) u1.1 u1.2.1 u1.2.2.1) (by simp) (by simp [hd, hlt', mb]; rfl)) ?_
    refine RegO.opN 1 (by simp [hd, hlt', mb]; rfl) ?_
    refine RegO.nil ?_
    refine DW.seq ?_
    refine DW.reg (by simp [z1]; rfl) ?_
    refine DW.condF (by simp [z1]) ?_
    refine DW.skip ?_
    refine DW.reg (by simp [w1]; rfl) ?_
    clear v1 v2 v3 v4
    exact ⟨(i + 1, K + 4 + (ctL c.Names : Int)), ⟨hlt, by simp only; omega⟩, by simp only; omega, by simp, by simp, by simp, by rfl⟩
  · have hil : i = l.length := by
      have : ¬ i < l.length := by simpa using hc0
      omega
    subst hil
    rw [List.take_length] at hK
    refine DW.exit ?_
    refine DW.seq ?_
    refine DW.reg (by simp; rfl) ?_
    refine DW.ret ?_
    simp [Try.results55, hK]
theorem cloneByteArray_spec (l : List ByteArray) (hl : l.length ≤ 2 ^ 36) : Spec Try.prog 142 [ra l] [none] [dr l] [ra l] := by
  refine Spec.intro Try.func142 rfl rfl Try.ntmps142 rfl (by simp) ?_
  have c1 : l.length * 16 ≤ 140737488355328 := by omega
  have c2 : l.length ≤ 140737488355328 := by omega
  refine DW.seq ?_
  refine DW.reg (by simp [c1, c2]; rfl) ?_
  refine DW.seq ?_
  refine DW.seq ?_
  refine DW.regs ?_
  refine RegO.opN 1 (by simp; rfl) ?_
  refine RegO.stepE rfl (OpStepE.eqNil (n := l.length) rfl rfl (by decide) Try.underlying123 (by simp [rowLen])) ?_
  rintro s1 ⟨b, hb, rfl⟩
  refine RegO.nil ?_
  refine DW.condB (by simp [c1, c2]; exact rfl) (fun hc0 => ?_) (fun hc0 => ?_)
  · have hl0 : l = [] := List.length_eq_zero_iff.1 (hb hc0)
    subst hl0
    refine DW.seq ?_
    refine DW.reg (by simp [c1, c2]; rfl) ?_
    refine DW.ghost (Ghost.nlRow 2 1000 1 (by simp) (by simp)) ?_
    refine DW.ret ?_
    simp [Try.results142]
  · refine DW.skip ?_
    refine DW.seq ?_
    refine DW.reg (by simp [c1, c2]; rfl) ?_
    refine DW.ret ?_
    simp [Try.results142]
def toldTo (l : List Told) (t : Int) : List Result := (l.filter fun x => x.Done && x.Tenant == t).map (·.Result)
theorem toldTo_take (l : List Told) (t : Int) (i : Nat) (h : i < l.length) : toldTo (l.take (i + 1)) t = toldTo (l.take i) t ++ (if (l[i].Done && l[i].Tenant == t) = true then [l[i].Result] else []) := by
  rw [take_succ' l i h]; simp only [toldTo, List.filter_append, List.map_append]; congr 1; by_cases hc : (l[i].Done && l[i].Tenant == t) = true <;> simp [hc]
theorem toldTo_len (l : List Told) (t : Int) : (toldTo l t).length ≤ l.length := by simp only [toldTo, List.length_map]; exact List.length_filter_le _ _
theorem toldTo_sz (l : List Told) (t : Int) : szL (toldTo l t) ≤ szL l := by
  induction l with
  | nil => simp [toldTo]
  | cons x l ih =>
    have hx := Told_sz x
    by_cases hc : (x.Done && x.Tenant == t) = true
    · have e : toldTo (x :: l) t = x.Result :: toldTo l t := by simp only [toldTo, List.filter_cons, hc, if_true, List.map_cons]
      rw [e]; simp only [szL]; omega
    · have e : toldTo (x :: l) t = toldTo l t := by simp only [toldTo, List.filter_cons, if_neg hc]
      rw [e]; simp only [szL]; omega
theorem copyResult_spec (a : Result) (h : Row.sz a ≤ 2 ^ 36) : Spec Try.prog 104 [raResult a] [some 5] (Result.d a) [raResult a] := by
  refine Spec.intro Try.func104 rfl rfl Try.ntmps104 rfl (by simp) ?_
  have hz := Result_sz a
  have hl := szL_len a.Names
  refine DW.seq ?_
  refine DW.reg (by simp; rfl) ?_
  refine DW.seq ?_
  refine DW.regs ?_
  refine RegO.opN 2 (by simp; rfl) ?_
  refine RegO.step rfl (OpStep.callA rfl (by simp; exact ⟨rfl, rfl⟩) (by simp; rfl) (by exact cloneByteArray_spec _ (by omega)) (by simp) (by simp; rfl)) ?_
  refine RegO.opN 2 (by simp; rfl) ?_
  refine RegO.nil ?_
  refine DW.seq ?_
  refine DW.reg (by simp; rfl) ?_
  refine DW.ret ?_
  simp [Try.results104]
theorem specToldTo_spec (l : List Told) (t : Int) (h : szL l ≤ 2 ^ 36) : Spec Try.prog 48 [ra l, ri t] [none] [dr (toldTo l t)] [ra l, ri t] := by
  refine Spec.intro Try.func48 rfl rfl Try.ntmps48 rfl (by simp) ?_
  have hll := szL_len l
  refine DW.seq ?_
  refine DW.reg (by simp; rfl) ?_
  refine DW.seq ?_
  refine DW.reg (by simp; rfl) ?_
  refine DW.seq ?_
  refine DW.seq ?_
  refine DW.reg (by simp; rfl) ?_
  refine DW.ghost (Ghost.nlRow 5 42 5 (by simp) (by simp)) ?_
  refine DW.block ?_
  refine DW.loopS (α := Nat) (fun i => i ≤ l.length) (fun i => l.length - i) (fun i => [(6, vi i), (5, .v (.one (.sl 42 [] 0 (toldTo (l.take i) t).length)))]) (fun i => [(42, .ow () 5 (toldTo (l.take i) t).length (rD (toldTo (l.take i) t)))]) [(0, _), (1, _)] [] [] 0 (by simp) (by simp [toldTo]; exact ⟨rfl, rfl⟩) (by simp [toldTo]) (by simp) (by rfl) ?_
  intro i hi
  refine DW.seq ?_
  refine DW.seq ?_
  refine DW.reg (by simp; rfl) ?_
  refine DW.condB (by simp; exact rfl) (fun hc0 => ?_) (fun hc0 => ?_)
  · have hlt : i < l.length := by simpa using hc0
    have hd := rR_drop_Told l i hlt
    have hs := szL_at l i hlt
    have hR := toldTo_take l t i hlt
    have hlt' : (i : Int) < l.length := by omega
    have w1 : IntKind.i64.wrap ((i : Int) + 1) = ((i + 1 : Nat) : Int) := (wr _ (by omega) (by omega)).trans (by omega)
    have hrl := toldTo_len (l.take i) t
    rw [List.length_take, Nat.min_eq_left hi] at hrl
    have hb1 : ((toldTo (l.take i) t).length + 1) * 64 ≤ 140737488355328 := by omega
    have hb2 : (toldTo (l.take i) t).length + 1 ≤ 140737488355328 := by omega
    generalize l[i] = c at hd hs hR
    have hz := Told_sz c
    have hz2 := Result_sz c.Result
    have hnl := szL_len c.Result.Names
    have hb3 : c.Result.Names.length * 16 ≤ 140737488355328 := by omega
    have hb4 : c.Result.Names.length ≤ 140737488355328 := by omega
    have hRd : rD [c.Result] = Result.d c.Result := by simp only [rD, List.flatMap_cons, List.flatMap_nil, List.append_nil]; rfl
    refine DW.skip ?_
    refine DW.seq ?_
    refine DW.block ?_
    refine DW.seq ?_
    cases hD : c.Done
    · simp [hD] at hR
      refine DW.reg (by simp [hb1, hb2, hb3, hb4, hD, hd, hlt']; rfl) ?_
      refine DW.condF (by simp [hb1, hb2, hb3, hb4, hD]) ?_
      refine DW.skip ?_
      refine DW.reg (by simp [hb1, hb2, hb3, hb4, hD, w1]; rfl) ?_
      exact ⟨i + 1, hlt, by omega, by simp [hR], by simp [hR, rD_append, hRd], by simp, by rfl⟩
    · skip
      refine DW.reg (by simp [hb1, hb2, hb3, hb4, hD, hd, hlt']; rfl) ?_
      refine DW.condB (by simp [hb1, hb2, hb3, hb4, hD]; exact rfl) (fun hc1 => ?_) (fun hc1 => ?_)
      · have hcc : c.Tenant = t := by simpa using hc1
        simp [hD, hcc] at hR
        refine DW.seq ?_
        refine DW.reg (by simp [hb1, hb2, hb3, hb4, hD, hd, hlt']; rfl) ?_
        refine DW.seq ?_
        refine DW.reg (by simp [hb1, hb2, hb3, hb4, hD]; rfl) ?_
        refine DW.reg (by simp [hb1, hb2, hb3, hb4, hD]; rfl) ?_
        refine DW.reg (by simp [hb1, hb2, hb3, hb4, hD, w1]; rfl) ?_
        exact ⟨i + 1, hlt, by omega, by simp [hR], by simp [hR, rD_append, hRd], by simp, by rfl⟩
      · have hcc : ¬ c.Tenant = t := by simpa using hc1
        simp [hD, hcc] at hR
        refine DW.skip ?_
        refine DW.reg (by simp [hb1, hb2, hb3, hb4, hD, w1]; rfl) ?_
        exact ⟨i + 1, hlt, by omega, by simp [hR], by simp [hR, rD_append, hRd], by simp, by rfl⟩
  · have hil : i = l.length := by
      have : ¬ i < l.length := by simpa using hc0
      omega
    subst hil
    rw [List.take_length]
    refine DW.exit ?_
    refine DW.seq ?_
    refine DW.reg (by simp; rfl) ?_
    refine DW.ret ?_
    simp [Try.results48]
theorem implToldTo_spec (l : List Told) (t : Int) (h : szL l ≤ 2 ^ 36) : Spec Try.prog 50 [ra l, ri t] [none] [dr (toldTo l t)] [ra l, ri t] := by
  refine Spec.intro Try.func50 rfl rfl Try.ntmps50 rfl (by simp) ?_
  have hll := szL_len l
  refine DW.seq ?_
  refine DW.reg (by simp; rfl) ?_
  refine DW.seq ?_
  refine DW.reg (by simp; rfl) ?_
  refine DW.seq ?_
  refine DW.seq ?_
  refine DW.reg (by simp; rfl) ?_
  refine DW.ghost (Ghost.nlRow 5 28 5 (by simp) (by simp)) ?_
  refine DW.block ?_
  refine DW.loopS (α := Nat) (fun i => i ≤ l.length) (fun i => l.length - i) (fun i => [(11, vi i), (5, .v (.one (.sl 28 [] 0 (toldTo (l.take i) t).length)))]) (fun i => [(28, .ow () 5 (toldTo (l.take i) t).length (rD (toldTo (l.take i) t)))]) [(0, _), (1, _), (9, _), (10, _)] [] [] 0 (by simp) (by simp [toldTo]; exact ⟨rfl, rfl, rfl, rfl⟩) (by simp [toldTo]) (by simp) (by rfl) ?_
  intro i hi
  refine DW.seq ?_
  refine DW.reg (by simp; rfl) ?_
  refine DW.seq ?_
  refine DW.condB (by simp; exact rfl) (fun hc0 => ?_) (fun hc0 => ?_)
  · have hlt : i < l.length := by simpa using hc0
    have hd := rR_drop_Told l i hlt
    have hs := szL_at l i hlt
    have hR := toldTo_take l t i hlt
    have hlt' : (i : Int) < l.length := by omega
    have w1 : IntKind.i64.wrap ((i : Int) + 1) = ((i + 1 : Nat) : Int) := (wr _ (by omega) (by omega)).trans (by omega)
    have hrl := toldTo_len (l.take i) t
    rw [List.length_take, Nat.min_eq_left hi] at hrl
    have hb1 : ((toldTo (l.take i) t).length + 1) * 64 ≤ 140737488355328 := by omega
    have hb2 : (toldTo (l.take i) t).length + 1 ≤ 140737488355328 := by omega
    generalize l[i] = c at hd hs hR
    have hz := Told_sz c
    have hz2 := Result_sz c.Result
    have hnl := szL_len c.Result.Names
    have hb3 : c.Result.Names.length * 16 ≤ 140737488355328 := by omega
    have hb4 : c.Result.Names.length ≤ 140737488355328 := by omega
    have hRd : rD [c.Result] = Result.d c.Result := by simp only [rD, List.flatMap_cons, List.flatMap_nil, List.append_nil]; rfl
    refine DW.skip ?_
    refine DW.seq ?_
    refine DW.block ?_
    refine DW.seq ?_
    refine DW.reg (by simp [hb1, hb2, hb3, hb4, hd, hlt']; rfl) ?_
    refine DW.seq ?_
    cases hD : c.Done
    · simp [hD] at hR
      refine DW.reg (by simp [hb1, hb2, hb3, hb4, hD]; rfl) ?_
      refine DW.condF (by simp [hb1, hb2, hb3, hb4, hD]) ?_
      refine DW.skip ?_
      refine DW.reg (by simp [hb1, hb2, hb3, hb4, hD, w1]; rfl) ?_
      exact ⟨i + 1, hlt, by omega, by simp [hR], by simp [hR, rD_append, hRd], by simp, by rfl⟩
    · skip
      refine DW.reg (by simp [hb1, hb2, hb3, hb4, hD]; rfl) ?_
      refine DW.condB (by simp [hb1, hb2, hb3, hb4, hD]; exact rfl) (fun hc1 => ?_) (fun hc1 => ?_)
      · have hcc : c.Tenant = t := by simpa using hc1
        simp [hD, hcc] at hR
        refine DW.regs ?_
        refine RegO.opN 3 (by simp [hb1, hb2, hb3, hb4, hD]; rfl) ?_
        refine RegO.step rfl (OpStep.callA rfl (by simp [hb1, hb2, hb3, hb4, hD]; exact ⟨rfl, rfl⟩) (by simp [hb1, hb2, hb3, hb4, hD]; rfl) (by exact copyResult_spec _ (by omega)) (by simp) (by simp [hb1, hb2, hb3, hb4, hD]; rfl)) ?_
        refine RegO.opN 3 (by simp [hb1, hb2, hb3, hb4, hD]; rfl) ?_
        refine RegO.nil ?_
        refine DW.reg (by simp [hb1, hb2, hb3, hb4, hD, w1]; rfl) ?_
        exact ⟨i + 1, hlt, by omega, by simp [hR], by simp [hR, rD_append, hRd], by simp, by rfl⟩
      · have hcc : ¬ c.Tenant = t := by simpa using hc1
        simp [hD, hcc] at hR
        refine DW.skip ?_
        refine DW.reg (by simp [hb1, hb2, hb3, hb4, hD, w1]; rfl) ?_
        exact ⟨i + 1, hlt, by omega, by simp [hR], by simp [hR, rD_append, hRd], by simp, by rfl⟩
  · have hil : i = l.length := by
      have : ¬ i < l.length := by simpa using hc0
      omega
    subst hil
    rw [List.take_length]
    refine DW.exit ?_
    refine DW.seq ?_
    refine DW.reg (by simp; rfl) ?_
    refine DW.ret ?_
    simp [Try.results50]
end Go.Proofs.Ytjjdjkkhhcbogaa.DM
