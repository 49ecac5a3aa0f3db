import Derived.Test.YtciieaidbiejmaaDoorFData
namespace Go.Proofs.YtciieaidbiejmaaDoor.DM
set_option linter.unusedVariables false
set_option linter.unusedSimpArgs false
set_option maxRecDepth 4000
set_option maxHeartbeats 8000000
theorem markText_spec (k1 : Int) (h0 : 0 < k1) (h1 : k1 < 4611686018427387904) : Spec Tryd.prog 71 [ri k1] [none] [ds (mt k1)] [ri k1] := by
  refine Spec.intro Tryd.func71 rfl rfl Tryd.ntmps71 rfl (by simp) ?_
  obtain ⟨k0, rfl⟩ := Int.eq_ofNat_of_zero_le (show 0 ≤ k1 by omega)
  have h0n : ¬ (k0 : Int) ≤ 0 := by omega
  have h0m : ¬ k0 = 0 := by omega
  refine DW.seq ?_
  refine DW.reg (by simp; rfl) ?_
  refine DW.seq ?_
  refine DW.seq ?_
  refine DW.reg (by simp [h0n, h0m]; rfl) ?_
  refine DW.condF (by simp [h0n, h0m]) ?_
  refine DW.skip ?_
  refine DW.seq ?_
  refine DW.reg (by simp; rfl) ?_
  refine DW.seq ?_
  refine DW.block ?_
  refine DW.loopS (α := Nat × ByteArray) (fun p => p.1 ≤ k0 ∧ mtB p.1 p.2 = mtB k0 ByteArray.empty ∧ p.2.size + p.1 ≤ k0) (fun p => p.1) (fun p => [(0, vi p.1), (3, vs p.2)]) (fun p => []) [] [] [] (k0, ByteArray.empty) (⟨Nat.le_refl _, rfl, by simp⟩) (by simp) (by simp) (by simp) (by rfl) ?_
  rintro ⟨k, acc⟩ ⟨hk, hm, hs⟩
  simp only at hk hm hs ⊢
  refine DW.seq ?_
  refine DW.seq ?_
  refine DW.reg (by simp; rfl) ?_
  refine DW.condB (by simp; exact rfl) (fun hc1 => ?_) (fun hc1 => ?_)
  · have hp : 0 < k := by simpa using hc1
    have wd : IntKind.i64.wrap (48 + (k : Int).tmod 10) = ((48 + k % 10 : Nat) : Int) := by
      have e : (k : Int).tmod 10 = ((k % 10 : Nat) : Int) := by rw [Int.tmod_eq_emod_of_nonneg (by omega)]; omega
      rw [e, wr _ (by omega) (by omega)]; omega
    have hu : IntKind.u8.wrap (48 + (k : Int) % 10) = ((dg k).toNat : Int) := by
      have e1 : (dg k).toNat = 48 + k % 10 := by unfold dg; simp; omega
      rw [e1]; simp [IntKind.wrap, IntKind.bits, IntKind.signed]; omega
    have hz : (⟨#[dg k]⟩ ++ acc : ByteArray).size + k / 10 ≤ k0 := by rw [ByteArray.size_append]; show 1 + acc.size + k / 10 ≤ _; omega
    have hsz : ¬ ((9223372036854775807 : Int) < ((⟨#[dg k]⟩ : ByteArray).size : Int) + acc.size) := by show ¬ ((9223372036854775807 : Int) < ((1 : Nat) : Int) + acc.size); omega
    have hq : IntKind.i64.wrap ((k : Int) / 10) = (k : Int) / 10 := wr _ (by omega) (by omega)
    refine DW.skip ?_
    refine DW.block ?_
    refine DW.seq ?_
    refine DW.regs ?_
    refine RegO.opN 5 (by simp [wd]; rfl) ?_
    refine RegO.step rfl (OpStep.bytesStr (n := 1) (l := [dg k]) rfl rfl (by decide) (by simp; rfl) (by simp) (by simp) (by simp [rowLen]) (by simp [hu]; exact ⟨rfl, rfl⟩)) ?_
    refine RegO.opN 3 (by simp [hsz]; rfl) ?_
    refine RegO.nil ?_
    refine DW.reg (by simp [hq]; rfl) ?_
    exact ⟨(k / 10, ⟨#[dg k]⟩ ++ acc), ⟨by omega, by rw [← hm]; conv => rhs; rw [mtB, dif_pos hp], hz⟩, by simp; omega, by simp [hq], by simp, by simp, by rfl⟩
  · have hk0 : k = 0 := by
      have : ¬ 0 < k := by simpa using hc1
      omega
    subst hk0
    rw [mtB, dif_neg (by omega)] at hm
    have hsz : ¬ ((9223372036854775807 : Int) < ((⟨#[109]⟩ : ByteArray).size : Int) + acc.size) := by show ¬ ((9223372036854775807 : Int) < ((1 : Nat) : Int) + acc.size); omega
    refine DW.exit ?_
    refine DW.seq ?_
    refine DW.reg (by simp [hsz]; rfl) ?_
    refine DW.ret ?_
    simp [Tryd.results71, mt, ← hm]
theorem szStringS_spec (l : List ByteArray) (left : Int) (h0 : 0 ≤ left) (h1 : left ≤ 1099511627776) (ho : okL 281474976710656 l) : Spec Tryd.prog 35 [ra l, ri left] [none] [di (szr (left - (szL l : Int)))] [ra l, ri left] := by
  refine Spec.intro Tryd.func35 rfl rfl Tryd.ntmps35 rfl (by simp) ?_
  have hll := szL_len l
  have hl := ho.1
  have w0 : IntKind.i64.wrap (left - (l.length : Int)) = left - (l.length : Int) := wr _ (by omega) (by omega)
  refine DW.seq ?_
  refine DW.reg (by simp [w0]; rfl) ?_
  refine DW.seq ?_
  refine DW.reg (by simp [w0]; rfl) ?_
  refine DW.seq ?_
  refine DW.seq ?_
  refine DW.reg (by simp [w0]; rfl) ?_
  refine DW.condB (by simp [w0]; exact rfl) (fun hc0 => ?_) (fun hc0 => ?_)
  · have hn : left - (l.length : Int) < 0 := by simpa using hc0
    have hr : szr (left - (szL l : Int)) = -1 := szr_neg (by omega)
    refine DW.seq ?_
    refine DW.reg (by simp [w0]; rfl) ?_
    refine DW.ret ?_
    simp [Tryd.results35, hr]
  · have hn : ¬ (left - (l.length : Int) < 0) := by simpa using hc0
    refine DW.skip ?_
    refine DW.seq ?_
    refine DW.seq ?_
    refine DW.reg (by simp [w0]; rfl) ?_
    refine DW.block ?_
    refine DW.loopS (α := Nat) (fun i => i ≤ l.length ∧ 0 ≤ (left - (l.length : Int) + (i : Int) - (szL (l.take i) : Int))) (fun i => l.length - i) (fun i => [(5, vi i), (1, vi (left - (l.length : Int) + (i : Int) - (szL (l.take i) : Int)))]) (fun i => []) [(0, _)] [] [] 0 (⟨by omega, by simp; omega⟩) (by simp; exact rfl) (by simp) (by simp) (by rfl) ?_
    intro i hi
    obtain ⟨hi, hp⟩ := hi
    refine DW.seq ?_
    refine DW.seq ?_
    refine DW.reg (by simp [w0]; rfl) ?_
    refine DW.condB (by simp [w0]; exact rfl) (fun hc1 => ?_) (fun hc1 => ?_)
    · have hlt : i < l.length := by simpa using hc1
      have hd := rR_get_ByteArray l i hlt
      have hs := szL_at l i hlt
      have hst := szL_take l i hlt
      have hdl := szL_len (l.drop (i + 1))
      rw [List.length_drop] at hdl
      have hoc := okL_at ho i hlt
      have hlt' : (i : Int) < l.length := by omega
      have w1 : IntKind.i64.wrap ((i : Int) + 1) = ((i + 1 : Nat) : Int) := (wr _ (by omega) (by omega)).trans (by omega)
      generalize l[i] = c at hd hs hst hoc
      have hsc : Row.sz c = c.size := rfl
      have hoc2 : c.size ≤ 281474976710656 := hoc
      have hq : IntKind.i64.wrap ((left - (l.length : Int) + (i : Int) - (szL (l.take i) : Int)) - (c.size : Int)) = (left - (l.length : Int) + ((i + 1 : Nat) : Int) - (szL (l.take (i + 1)) : Int)) := (wr _ (by omega) (by omega)).trans (by omega)
      refine DW.skip ?_
      refine DW.seq ?_
      refine DW.block ?_
      refine DW.seq ?_
      refine DW.reg (by simp [w0, hd, hlt', hq]; rfl) ?_
      refine DW.seq ?_
      refine DW.reg (by simp [w0]; rfl) ?_
      refine DW.condB (by simp [w0]; exact rfl) (fun hc2 => ?_) (fun hc2 => ?_)
      · have hn : (left - (l.length : Int) + ((i + 1 : Nat) : Int) - (szL (l.take (i + 1)) : Int)) < 0 := by simpa using hc2
        have hr : szr (left - (szL l : Int)) = -1 := szr_neg (by omega)
        refine DW.seq ?_
        refine DW.reg (by simp [w0]; rfl) ?_
        refine DW.ret ?_
        simp [Tryd.results35, hr]
      · have hn : ¬ ((left - (l.length : Int) + ((i + 1 : Nat) : Int) - (szL (l.take (i + 1)) : Int)) < 0) := by simpa using hc2
        refine DW.skip ?_
        refine DW.reg (by simp [w0, w1]; rfl) ?_
        exact ⟨i + 1, ⟨hlt, by omega⟩, by omega, by simp, by simp, by simp, by rfl⟩
    · have hil : i = l.length := by
        have : ¬ i < l.length := by simpa using hc1
        omega
      subst hil
      rw [List.take_length] at hp
      have hr : szr (left - (szL l : Int)) = left - (l.length : Int) + (l.length : Int) - (szL l : Int) := by rw [szr_pos (by omega)]; omega
      refine DW.exit ?_
      refine DW.seq ?_
      refine DW.reg (by simp [w0]; rfl) ?_
      refine DW.ret ?_
      simp [Tryd.results35, hr]
theorem szResult_spec (a : Result) (left : Int) (h0 : 0 ≤ left) (h1 : left ≤ 1099511627776) (ho : Row.ok 281474976710656 a) : Spec Tryd.prog 18 [raResult a, ri left] [none] [di (szr (left - (Row.sz a : Int)))] [raResult a, ri left] := by
  refine Spec.intro Tryd.func18 rfl rfl Tryd.ntmps18 rfl (by simp) ?_
  have hz := Result_sz a
  rw [Result_ok] at ho
  obtain ⟨_, o0, _, o1⟩ := ho
  have w0 : IntKind.i64.wrap (left - (a.Text.size : Int)) = left - (a.Text.size : Int) := wr _ (by omega) (by omega)
  refine DW.seq ?_
  refine DW.reg (by simp [w0]; rfl) ?_
  refine DW.seq ?_
  refine DW.reg (by simp [w0]; rfl) ?_
  refine DW.seq ?_
  refine DW.seq ?_
  refine DW.reg (by simp [w0]; rfl) ?_
  refine DW.condB (by simp [w0]; exact rfl) (fun hc0 => ?_) (fun hc0 => ?_)
  · have q0 : True := trivial
    have w1 : True := trivial
    have hn0 : left - (a.Text.size : Int) < 0 := by simpa using hc0
    have hr : szr (left - (Row.sz a : Int)) = -1 := szr_neg (by omega)
    refine DW.seq ?_
    refine DW.reg (by simp [q0, w0]; rfl) ?_
    refine DW.ret ?_
    simp [Tryd.results18, hr]
  · have hn0 : ¬ (left - (a.Text.size : Int) < 0) := by simpa using hc0
    have q0 : szr (left - (a.Text.size : Int)) = left - (a.Text.size : Int) := szr_pos (by omega)
    refine DW.skip ?_
    refine DW.seq ?_
    refine DW.regs ?_
    refine RegO.opN 3 (by simp [q0, w0]; rfl) ?_
    refine RegO.step rfl (OpStep.callA rfl (by simp [q0, w0]; exact ⟨rfl, rfl⟩) (by simp [q0, w0]; rfl) (by exact szStringS_spec _ _ (by omega) (by omega) o1) (by simp) (by simp [q0, w0]; rfl)) ?_
    refine RegO.opN 1 (by simp [q0, w0]; rfl) ?_
    refine RegO.nil ?_
    refine DW.seq ?_
    refine DW.seq ?_
    refine DW.reg (by simp [q0, w0]; rfl) ?_
    refine DW.condB (by simp [q0, w0]; exact rfl) (fun hc1 => ?_) (fun hc1 => ?_)
    · have q1 : True := trivial
      have w2 : True := trivial
      have hn1 : left - (a.Text.size : Int) - (szL a.Names : Int) < 0 := by simpa using hc1
      have hr : szr (left - (Row.sz a : Int)) = -1 := szr_neg (by omega)
      refine DW.seq ?_
      refine DW.reg (by simp [q0, q1, w0]; rfl) ?_
      refine DW.ret ?_
      simp [Tryd.results18, hr]
    · have hn1 : ¬ (left - (a.Text.size : Int) - (szL a.Names : Int) < 0) := by simpa using hc1
      have q1 : szr (left - (a.Text.size : Int) - (szL a.Names : Int)) = left - (a.Text.size : Int) - (szL a.Names : Int) := szr_pos (by omega)
      have hr : szr (left - (Row.sz a : Int)) = left - (a.Text.size : Int) - (szL a.Names : Int) := by rw [szr_pos (by omega)]; omega
      refine DW.skip ?_
      refine DW.seq ?_
      refine DW.reg (by simp [q0, q1, w0]; rfl) ?_
      refine DW.ret ?_
      simp [Tryd.results18, hr]
theorem toStringS_spec (l : List ByteArray) (h : szL l ≤ 2 ^ 36) : Spec Tryd.prog 37 [ra l] [none] [dr l] [ra l] := by
  refine Spec.intro Tryd.func37 rfl rfl Tryd.ntmps37 rfl (by simp) ?_
  have hll := szL_len l
  have hb1 : (16 : Int) * l.length ≤ 281474976710656 := by omega
  have hb2 : (l.length : Int) ≤ 281474976710656 := by omega
  refine DW.seq ?_
  refine DW.reg (by simp; rfl) ?_
  refine DW.seq ?_
  refine DW.reg (by simp [hb1, hb2]; rfl) ?_
  refine DW.seq ?_
  refine DW.seq ?_
  refine DW.reg (by simp; rfl) ?_
  refine DW.block ?_
  refine DW.loopS (α := Nat) (fun i => i ≤ l.length) (fun i => l.length - i) (fun i => [(4, vi i)]) (fun i => [(7, .ow () 1 l.length (rD (l.take i) ++ List.replicate (l.length - i) (.sc (.string ByteArray.empty) : D)))]) [(0, _), (3, _)] [] [] 0 (by simp) (by simp; exact ⟨rfl, rfl⟩) (by simp) (by simp) (by rfl) ?_
  intro i hi
  refine DW.seq ?_
  refine DW.seq ?_
  refine DW.reg (by simp; rfl) ?_
  refine DW.condB (by simp; exact rfl) (fun hc0 => ?_) (fun hc0 => ?_)
  · have hlt : i < l.length := by simpa using hc0
    have hd := rR_get_ByteArray l i hlt
    have hs := szL_at l i hlt
    have hlt' : (i : Int) < l.length := by omega
    have w1 : IntKind.i64.wrap ((i : Int) + 1) = ((i + 1 : Nat) : Int) := (wr _ (by omega) (by omega)).trans (by omega)
    have hA : (rD (l.take i)).length = i := by rw [rD_len_ByteArray, List.length_take, Nat.min_eq_left (by omega)]; omega
    have hz1 : List.replicate (l.length - i) (.sc (.string ByteArray.empty) : D) = .sc (.string ByteArray.empty) :: List.replicate (l.length - (i + 1)) (.sc (.string ByteArray.empty) : D) := by rw [show l.length - i = (l.length - (i + 1)) + 1 by omega, List.replicate_succ]
    have hz2 : rD (l.take (i + 1)) = rD (l.take i) ++ Row.d l[i] := by rw [take_succ' l i hlt, rD_append]; simp [rD]
    simp only [Row.d] at hz2
    generalize l[i] = c at hd hs hz2
    refine DW.skip ?_
    refine DW.seq ?_
    refine DW.block ?_
    refine DW.reg (by simp [hd, hlt', hz1, app_get hA, app_get0 hA, app_set hA, app_set0 hA, Nat.add_assoc]; rfl) ?_
    refine DW.reg (by simp [w1]; rfl) ?_
    exact ⟨i + 1, hlt, by omega, by simp, by simp [hz2], by simp, by rfl⟩
  · have hil : i = l.length := by
      have : ¬ i < l.length := by simpa using hc0
      omega
    subst hil
    refine DW.exit ?_
    refine DW.seq ?_
    refine DW.reg (by simp; rfl) ?_
    refine DW.ret ?_
    simp [Tryd.results37]
theorem toResult_spec (a : Result) (h : Row.sz a ≤ 2 ^ 36) : Spec Tryd.prog 20 [raResult a] [some 5] (Result.d a) [raResult a] := by
  refine Spec.intro Tryd.func20 rfl rfl Tryd.ntmps20 rfl (by simp) ?_
  have hz := Result_sz a
  refine DW.seq ?_
  refine DW.reg (by simp; rfl) ?_
  refine DW.seq ?_
  refine DW.reg (by simp; rfl) ?_
  refine DW.seq ?_
  refine DW.reg (by simp; rfl) ?_
  refine DW.seq ?_
  refine DW.reg (by simp; rfl) ?_
  refine DW.seq ?_
  refine DW.reg (by simp; rfl) ?_
  refine DW.seq ?_
  refine DW.reg (by simp; rfl) ?_
  refine DW.seq ?_
  refine DW.regs ?_
  refine RegO.opN 2 (by simp; rfl) ?_
  refine RegO.step rfl (OpStep.callA rfl (by simp; exact ⟨rfl, rfl⟩) (by simp; rfl) (by exact toStringS_spec _ (by omega)) (by simp) (by simp; rfl)) ?_
  refine RegO.opN 2 (by simp; rfl) ?_
  refine RegO.nil ?_
  refine DW.seq ?_
  refine DW.reg (by simp; rfl) ?_
  refine DW.ret ?_
  simp [Tryd.results20]
theorem eqStringS_spec (l : List ByteArray) (h : szL l ≤ 2 ^ 36) : Spec Tryd.prog 27 [ra l, ra l] [none] [db true] [ra l, ra l] := by
  refine Spec.intro Tryd.func27 rfl rfl Tryd.ntmps27 rfl (by simp) ?_
  have hll := szL_len l
  refine DW.seq ?_
  refine DW.reg (by simp; rfl) ?_
  refine DW.seq ?_
  refine DW.seq ?_
  refine DW.reg (by simp; rfl) ?_
  refine DW.condF (by simp) ?_
  refine DW.skip ?_
  refine DW.seq ?_
  refine DW.seq ?_
  refine DW.reg (by simp; rfl) ?_
  refine DW.block ?_
  refine DW.loopS (α := Nat) (fun i => i ≤ l.length) (fun i => l.length - i) (fun i => [(5, vi i)]) (fun i => []) [(0, _), (1, _)] [] [] 0 (by simp) (by simp; exact ⟨rfl, rfl⟩) (by simp) (by simp) (by rfl) ?_
  intro i hi
  refine DW.seq ?_
  refine DW.seq ?_
  refine DW.reg (by simp; rfl) ?_
  refine DW.condB (by simp; exact rfl) (fun hc1 => ?_) (fun hc1 => ?_)
  · have hlt : i < l.length := by simpa using hc1
    have hd := rR_get_ByteArray l i hlt
    have hs := szL_at l i hlt
    have hlt' : (i : Int) < l.length := by omega
    have w1 : IntKind.i64.wrap ((i : Int) + 1) = ((i + 1 : Nat) : Int) := (wr _ (by omega) (by omega)).trans (by omega)
    generalize l[i] = c at hd hs
    refine DW.skip ?_
    refine DW.seq ?_
    refine DW.block ?_
    refine DW.seq ?_
    refine DW.drawn mixed (by kernel_rfl) ?_
    refine RegD.addN 9 (by simp [hd, hlt']; (first | done | exact ⟨rfl, rfl⟩ | rfl)) ?_
    refine RegD.nil ⟨by kernel_rfl, ?_⟩
    refine DW.condF (by simp) ?_
    refine DW.skip ?_
    refine DW.reg (by simp [w1]; rfl) ?_
    exact ⟨i + 1, hlt, by omega, by simp, by simp, by simp, by rfl⟩
  · refine DW.exit ?_
    refine DW.seq ?_
    refine DW.reg (by simp; rfl) ?_
    refine DW.ret ?_
    simp [Tryd.results27]
theorem eqResult_spec (a : Result) (h : Row.sz a ≤ 2 ^ 36) : Spec Tryd.prog 22 [raResult a, raResult a] [none] [db true] [raResult a, raResult a] := by
  refine Spec.intro Tryd.func22 rfl rfl Tryd.ntmps22 rfl (by simp) ?_
  have hz := Result_sz a
  refine DW.seq ?_
  refine DW.reg (by simp; rfl) ?_
  refine DW.seq ?_
  refine DW.seq ?_
  refine DW.reg (by simp; rfl) ?_
  refine DW.condF (by simp) ?_
  refine DW.skip ?_
  refine DW.seq ?_
  refine DW.seq ?_
  refine DW.reg (by simp; rfl) ?_
  refine DW.condF (by simp) ?_
  refine DW.skip ?_
  refine DW.seq ?_
  refine DW.seq ?_
  refine DW.reg (by simp; rfl) ?_
  refine DW.condF (by simp) ?_
  refine DW.skip ?_
  refine DW.seq ?_
  refine DW.seq ?_
  refine DW.reg (by simp; rfl) ?_
  refine DW.condF (by simp) ?_
  refine DW.skip ?_
  refine DW.seq ?_
  refine DW.seq ?_
  refine DW.regs ?_
  refine RegO.opN 4 (by simp; rfl) ?_
  refine RegO.step rfl (OpStep.callA rfl (by simp; exact ⟨rfl, rfl⟩) (by simp; rfl) (by exact eqStringS_spec _ (by omega)) (by simp) (by simp; rfl)) ?_
  refine RegO.opN 1 (by simp; rfl) ?_
  refine RegO.nil ?_
  refine DW.condF (by simp) ?_
  refine DW.skip ?_
  refine DW.seq ?_
  refine DW.reg (by simp; rfl) ?_
  refine DW.ret ?_
  simp [Tryd.results22]
end Go.Proofs.YtciieaidbiejmaaDoor.DM
