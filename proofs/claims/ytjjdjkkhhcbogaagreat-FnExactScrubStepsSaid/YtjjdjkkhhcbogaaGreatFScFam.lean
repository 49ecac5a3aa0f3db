import Derived.Test.YtjjdjkkhhcbogaaGreatFData
namespace Go.Proofs.YtjjdjkkhhcbogaaGreat.DM
set_option linter.unusedVariables false
set_option linter.unusedSimpArgs false
set_option maxRecDepth 4000
set_option maxHeartbeats 8000000
theorem markText_spec (k1 : Int) (h0 : 0 < k1) (h1 : k1 < 4611686018427387904) : Spec Tryz.prog 71 [ri k1] [none] [ds (mt k1)] [ri k1] := by
  refine Spec.intro Tryz.func71 rfl rfl Tryz.ntmps71 rfl (by simp) ?_
  obtain ⟨k0, rfl⟩ := Int.eq_ofNat_of_zero_le (show 0 ≤ k1 by omega)
  have h0n : ¬ (k0 : Int) ≤ 0 := by omega
  have h0m : ¬ k0 = 0 := by omega
  refine DW.seq ?_
  refine DW.reg (by simp; rfl) ?_
  refine DW.seq ?_
  refine DW.seq ?_
  refine DW.reg (by simp [h0n, h0m]; rfl) ?_
  refine DW.condF (by simp [h0n, h0m]) ?_
  refine DW.skip ?_
  refine DW.seq ?_
  refine DW.reg (by simp; rfl) ?_
  refine DW.seq ?_
  refine DW.block ?_
  refine DW.loopS (α := Nat × ByteArray) (fun p => p.1 ≤ k0 ∧ mtB p.1 p.2 = mtB k0 ByteArray.empty ∧ p.2.size + p.1 ≤ k0) (fun p => p.1) (fun p => [(0, vi p.1), (3, vs p.2)]) (fun p => []) [] [] [] (k0, ByteArray.empty) (⟨Nat.le_refl _, rfl, by simp⟩) (by simp) (by simp) (by simp) (by rfl) ?_
  rintro ⟨k, acc⟩ ⟨hk, hm, hs⟩
  simp only at hk hm hs ⊢
  refine DW.seq ?_
  refine DW.seq ?_
  refine DW.reg (by simp; rfl) ?_
  refine DW.condB (by simp; exact rfl) (fun hc1 => ?_) (fun hc1 => ?_)
  · have hp : 0 < k := by simpa using hc1
    have wd : IntKind.i64.wrap (48 + (k : Int).tmod 10) = ((48 + k % 10 : Nat) : Int) := by
      have e : (k : Int).tmod 10 = ((k % 10 : Nat) : Int) := by rw [Int.tmod_eq_emod_of_nonneg (by omega)]; omega
      rw [e, wr _ (by omega) (by omega)]; omega
    have hu : IntKind.u8.wrap (48 + (k : Int) % 10) = ((dg k).toNat : Int) := by
      have e1 : (dg k).toNat = 48 + k % 10 := by unfold dg; simp; omega
      rw [e1]; simp [IntKind.wrap, IntKind.bits, IntKind.signed]; omega
    have hz : (⟨#[dg k]⟩ ++ acc : ByteArray).size + k / 10 ≤ k0 := by rw [ByteArray.size_append]; show 1 + acc.size + k / 10 ≤ _; omega
    have hsz : ¬ ((9223372036854775807 : Int) < ((⟨#[dg k]⟩ : ByteArray).size : Int) + acc.size) := by show ¬ ((9223372036854775807 : Int) < ((1 : Nat) : Int) + acc.size); omega
    have hq : IntKind.i64.wrap ((k : Int) / 10) = (k : Int) / 10 := wr _ (by omega) (by omega)
    refine DW.skip ?_
    refine DW.block ?_
    refine DW.seq ?_
    refine DW.regs ?_
    refine RegO.opN 5 (by simp [wd]; rfl) ?_
    refine RegO.step rfl (OpStep.bytesStr (n := 1) (l := [dg k]) rfl rfl (by decide) (by simp; rfl) (by simp) (by simp) (by simp [rowLen]) (by simp [hu]; exact ⟨rfl, rfl⟩)) ?_
    refine RegO.opN 3 (by simp [hsz]; rfl) ?_
    refine RegO.nil ?_
    refine DW.reg (by simp [hq]; rfl) ?_
    exact ⟨(k / 10, ⟨#[dg k]⟩ ++ acc), ⟨by omega, by rw [← hm]; conv => rhs; rw [mtB, dif_pos hp], hz⟩, by simp; omega, by simp [hq], by simp, by simp, by rfl⟩
  · have hk0 : k = 0 := by
      have : ¬ 0 < k := by simpa using hc1
      omega
    subst hk0
    rw [mtB, dif_neg (by omega)] at hm
    have hsz : ¬ ((9223372036854775807 : Int) < ((⟨#[109]⟩ : ByteArray).size : Int) + acc.size) := by show ¬ ((9223372036854775807 : Int) < ((1 : Nat) : Int) + acc.size); omega
    refine DW.exit ?_
    refine DW.seq ?_
    refine DW.reg (by simp [hsz]; rfl) ?_
    refine DW.ret ?_
    simp [Tryz.results71, mt, ← hm]
theorem szIntS_spec (l : List Int) (left : Int) (h0 : 0 ≤ left) (h1 : left ≤ 1099511627776) (ho : okL 281474976710656 l) : Spec Tryz.prog 43 [ra l, ri left] [none] [di (szr (left - (szL l : Int)))] [ra l, ri left] := by
  refine Spec.intro Tryz.func43 rfl rfl Tryz.ntmps43 rfl (by simp) ?_
  have hll := szL_len l
  have hl := ho.1
  have w0 : IntKind.i64.wrap (left - (l.length : Int)) = left - (l.length : Int) := wr _ (by omega) (by omega)
  have hsz : szL l = l.length := by
    clear ho hl hll w0
    induction l with
    | nil => rfl
    | cons x l ih => simp only [szL, ih, List.length_cons]; simp [Row.sz]; omega
  refine DW.seq ?_
  refine DW.reg (by simp [w0]; rfl) ?_
  refine DW.seq ?_
  refine DW.reg (by simp [w0]; rfl) ?_
  refine DW.seq ?_
  refine DW.seq ?_
  refine DW.reg (by simp [w0]; rfl) ?_
  refine DW.condB (by simp [w0]; exact rfl) (fun hc0 => ?_) (fun hc0 => ?_)
  · have hn : left - (l.length : Int) < 0 := by simpa using hc0
    have hr : szr (left - (szL l : Int)) = -1 := szr_neg (by omega)
    refine DW.seq ?_
    refine DW.reg (by simp [w0]; rfl) ?_
    refine DW.ret ?_
    simp [Tryz.results43, hr]
  · have hn : ¬ (left - (l.length : Int) < 0) := by simpa using hc0
    have hr : szr (left - (szL l : Int)) = left - (l.length : Int) := by rw [szr_pos (by omega)]; omega
    refine DW.skip ?_
    refine DW.seq ?_
    refine DW.reg (by simp [w0]; rfl) ?_
    refine DW.ret ?_
    simp [Tryz.results43, hr]
theorem szRec_spec (a : Rec) (left : Int) (h0 : 0 ≤ left) (h1 : left ≤ 1099511627776) (ho : Row.ok 281474976710656 a) : Spec Tryz.prog 213 [raRec a, ri left] [none] [di (szr (left - (Row.sz a : Int)))] [raRec a, ri left] := by
  refine Spec.intro Tryz.func213 rfl rfl Tryz.ntmps213 rfl (by simp) ?_
  have hz := Rec_sz a
  rw [Rec_ok] at ho
  obtain ⟨_, _, o0⟩ := ho
  have w0 : IntKind.i64.wrap (left - (a.Mark.size : Int)) = left - (a.Mark.size : Int) := wr _ (by omega) (by omega)
  refine DW.seq ?_
  refine DW.reg (by simp [w0]; rfl) ?_
  refine DW.seq ?_
  refine DW.reg (by simp [w0]; rfl) ?_
  refine DW.seq ?_
  refine DW.seq ?_
  refine DW.reg (by simp [w0]; rfl) ?_
  refine DW.condB (by simp [w0]; exact rfl) (fun hc0 => ?_) (fun hc0 => ?_)
  · have q0 : True := trivial
    have w1 : True := trivial
    have hn0 : left - (a.Mark.size : Int) < 0 := by simpa using hc0
    have hr : szr (left - (Row.sz a : Int)) = -1 := szr_neg (by omega)
    refine DW.seq ?_
    refine DW.reg (by simp [q0, w0]; rfl) ?_
    refine DW.ret ?_
    simp [Tryz.results213, hr]
  · have hn0 : ¬ (left - (a.Mark.size : Int) < 0) := by simpa using hc0
    have q0 : szr (left - (a.Mark.size : Int)) = left - (a.Mark.size : Int) := szr_pos (by omega)
    have hr : szr (left - (Row.sz a : Int)) = left - (a.Mark.size : Int) := by rw [szr_pos (by omega)]; omega
    refine DW.skip ?_
    refine DW.seq ?_
    refine DW.reg (by simp [q0, w0]; rfl) ?_
    refine DW.ret ?_
    simp [Tryz.results213, hr]
theorem szRecS_spec (l : List Rec) (left : Int) (h0 : 0 ≤ left) (h1 : left ≤ 1099511627776) (ho : okL 281474976710656 l) : Spec Tryz.prog 161 [ra l, ri left] [none] [di (szr (left - (szL l : Int)))] [ra l, ri left] := by
  refine Spec.intro Tryz.func161 rfl rfl Tryz.ntmps161 rfl (by simp) ?_
  have hll := szL_len l
  have hl := ho.1
  have w0 : IntKind.i64.wrap (left - (l.length : Int)) = left - (l.length : Int) := wr _ (by omega) (by omega)
  refine DW.seq ?_
  refine DW.reg (by simp [w0]; rfl) ?_
  refine DW.seq ?_
  refine DW.reg (by simp [w0]; rfl) ?_
  refine DW.seq ?_
  refine DW.seq ?_
  refine DW.reg (by simp [w0]; rfl) ?_
  refine DW.condB (by simp [w0]; exact rfl) (fun hc0 => ?_) (fun hc0 => ?_)
  · have hn : left - (l.length : Int) < 0 := by simpa using hc0
    have hr : szr (left - (szL l : Int)) = -1 := szr_neg (by omega)
    refine DW.seq ?_
    refine DW.reg (by simp [w0]; rfl) ?_
    refine DW.ret ?_
    simp [Tryz.results161, hr]
  · have hn : ¬ (left - (l.length : Int) < 0) := by simpa using hc0
    refine DW.skip ?_
    refine DW.seq ?_
    refine DW.seq ?_
    refine DW.reg (by simp [w0]; rfl) ?_
    refine DW.block ?_
    refine DW.loopS (α := Nat) (fun i => i ≤ l.length ∧ 0 ≤ (left - (l.length : Int) + (i : Int) - (szL (l.take i) : Int))) (fun i => l.length - i) (fun i => [(5, vi i), (1, vi (left - (l.length : Int) + (i : Int) - (szL (l.take i) : Int)))]) (fun i => []) [(0, _)] [] [] 0 (⟨by omega, by simp; omega⟩) (by simp; exact rfl) (by simp) (by simp) (by rfl) ?_
    intro i hi
    obtain ⟨hi, hp⟩ := hi
    refine DW.seq ?_
    refine DW.seq ?_
    refine DW.reg (by simp [w0]; rfl) ?_
    refine DW.condB (by simp [w0]; exact rfl) (fun hc1 => ?_) (fun hc1 => ?_)
    · have hlt : i < l.length := by simpa using hc1
      have hd := rR_drop_Rec l i hlt
      have hs := szL_at l i hlt
      have hst := szL_take l i hlt
      have hdl := szL_len (l.drop (i + 1))
      rw [List.length_drop] at hdl
      have hoc := okL_at ho i hlt
      have hlt' : (i : Int) < l.length := by omega
      have w1 : IntKind.i64.wrap ((i : Int) + 1) = ((i + 1 : Nat) : Int) := (wr _ (by omega) (by omega)).trans (by omega)
      generalize l[i] = c at hd hs hst hoc
      refine DW.skip ?_
      refine DW.seq ?_
      refine DW.block ?_
      refine DW.seq ?_
      refine DW.regs ?_
      refine RegO.opN 5 (by simp [w0, hd, hlt']; rfl) ?_
      refine RegO.step rfl (OpStep.callA rfl (by simp [w0, hd, hlt']; exact ⟨rfl, rfl⟩) (by simp [w0, hd, hlt']; rfl) (by exact szRec_spec _ _ (by omega) (by omega) hoc) (by simp) (by simp [w0, hd, hlt']; rfl)) ?_
      refine RegO.opN 1 (by simp [w0, hd, hlt']; rfl) ?_
      refine RegO.nil ?_
      refine DW.seq ?_
      refine DW.reg (by simp [w0]; rfl) ?_
      refine DW.condB (by simp [w0]; exact rfl) (fun hc2 => ?_) (fun hc2 => ?_)
      · have hn : (left - (l.length : Int) + (i : Int) - (szL (l.take i) : Int)) - (Row.sz c : Int) < 0 := by simpa using hc2
        have hr : szr (left - (szL l : Int)) = -1 := szr_neg (by omega)
        refine DW.seq ?_
        refine DW.reg (by simp [w0]; rfl) ?_
        refine DW.ret ?_
        simp [Tryz.results161, hr]
      · have hn : ¬ ((left - (l.length : Int) + (i : Int) - (szL (l.take i) : Int)) - (Row.sz c : Int) < 0) := by simpa using hc2
        have hq : szr ((left - (l.length : Int) + (i : Int) - (szL (l.take i) : Int)) - (Row.sz c : Int)) = (left - (l.length : Int) + ((i + 1 : Nat) : Int) - (szL (l.take (i + 1)) : Int)) := by rw [szr_pos (by omega)]; omega
        refine DW.skip ?_
        refine DW.reg (by simp [w0, w1, hq]; rfl) ?_
        exact ⟨i + 1, ⟨hlt, by omega⟩, by omega, by simp [hq], by simp, by simp, by rfl⟩
    · have hil : i = l.length := by
        have : ¬ i < l.length := by simpa using hc1
        omega
      subst hil
      rw [List.take_length] at hp
      have hr : szr (left - (szL l : Int)) = left - (l.length : Int) + (l.length : Int) - (szL l : Int) := by rw [szr_pos (by omega)]; omega
      refine DW.exit ?_
      refine DW.seq ?_
      refine DW.reg (by simp [w0]; rfl) ?_
      refine DW.ret ?_
      simp [Tryz.results161, hr]
theorem szEntry_spec (a : Entry) (left : Int) (h0 : 0 ≤ left) (h1 : left ≤ 1099511627776) (ho : Row.ok 281474976710656 a) : Spec Tryz.prog 214 [raEntry a, ri left] [none] [di (szr (left - (Row.sz a : Int)))] [raEntry a, ri left] := by
  refine Spec.intro Tryz.func214 rfl rfl Tryz.ntmps214 rfl (by simp) ?_
  have hz := Entry_sz a
  rw [Entry_ok] at ho
  obtain ⟨_, o0⟩ := ho
  have w0 : IntKind.i64.wrap (left - (a.Name.size : Int)) = left - (a.Name.size : Int) := wr _ (by omega) (by omega)
  refine DW.seq ?_
  refine DW.reg (by simp [w0]; rfl) ?_
  refine DW.seq ?_
  refine DW.reg (by simp [w0]; rfl) ?_
  refine DW.seq ?_
  refine DW.seq ?_
  refine DW.reg (by simp [w0]; rfl) ?_
  refine DW.condB (by simp [w0]; exact rfl) (fun hc0 => ?_) (fun hc0 => ?_)
  · have q0 : True := trivial
    have w1 : True := trivial
    have hn0 : left - (a.Name.size : Int) < 0 := by simpa using hc0
    have hr : szr (left - (Row.sz a : Int)) = -1 := szr_neg (by omega)
    refine DW.seq ?_
    refine DW.reg (by simp [q0, w0]; rfl) ?_
    refine DW.ret ?_
    simp [Tryz.results214, hr]
  · have hn0 : ¬ (left - (a.Name.size : Int) < 0) := by simpa using hc0
    have q0 : szr (left - (a.Name.size : Int)) = left - (a.Name.size : Int) := szr_pos (by omega)
    have hr : szr (left - (Row.sz a : Int)) = left - (a.Name.size : Int) := by rw [szr_pos (by omega)]; omega
    refine DW.skip ?_
    refine DW.seq ?_
    refine DW.reg (by simp [q0, w0]; rfl) ?_
    refine DW.ret ?_
    simp [Tryz.results214, hr]
theorem szEntryS_spec (l : List Entry) (left : Int) (h0 : 0 ≤ left) (h1 : left ≤ 1099511627776) (ho : okL 281474976710656 l) : Spec Tryz.prog 162 [ra l, ri left] [none] [di (szr (left - (szL l : Int)))] [ra l, ri left] := by
  refine Spec.intro Tryz.func162 rfl rfl Tryz.ntmps162 rfl (by simp) ?_
  have hll := szL_len l
  have hl := ho.1
  have w0 : IntKind.i64.wrap (left - (l.length : Int)) = left - (l.length : Int) := wr _ (by omega) (by omega)
  refine DW.seq ?_
  refine DW.reg (by simp [w0]; rfl) ?_
  refine DW.seq ?_
  refine DW.reg (by simp [w0]; rfl) ?_
  refine DW.seq ?_
  refine DW.seq ?_
  refine DW.reg (by simp [w0]; rfl) ?_
  refine DW.condB (by simp [w0]; exact rfl) (fun hc0 => ?_) (fun hc0 => ?_)
  · have hn : left - (l.length : Int) < 0 := by simpa using hc0
    have hr : szr (left - (szL l : Int)) = -1 := szr_neg (by omega)
    refine DW.seq ?_
    refine DW.reg (by simp [w0]; rfl) ?_
    refine DW.ret ?_
    simp [Tryz.results162, hr]
  · have hn : ¬ (left - (l.length : Int) < 0) := by simpa using hc0
    refine DW.skip ?_
    refine DW.seq ?_
    refine DW.seq ?_
    refine DW.reg (by simp [w0]; rfl) ?_
    refine DW.block ?_
    refine DW.loopS (α := Nat) (fun i => i ≤ l.length ∧ 0 ≤ (left - (l.length : Int) + (i : Int) - (szL (l.take i) : Int))) (fun i => l.length - i) (fun i => [(5, vi i), (1, vi (left - (l.length : Int) + (i : Int) - (szL (l.take i) : Int)))]) (fun i => []) [(0, _)] [] [] 0 (⟨by omega, by simp; omega⟩) (by simp; exact rfl) (by simp) (by simp) (by rfl) ?_
    intro i hi
    obtain ⟨hi, hp⟩ := hi
    refine DW.seq ?_
    refine DW.seq ?_
    refine DW.reg (by simp [w0]; rfl) ?_
    refine DW.condB (by simp [w0]; exact rfl) (fun hc1 => ?_) (fun hc1 => ?_)
    · have hlt : i < l.length := by simpa using hc1
      have hd := rR_drop_Entry l i hlt
      have hs := szL_at l i hlt
      have hst := szL_take l i hlt
      have hdl := szL_len (l.drop (i + 1))
      rw [List.length_drop] at hdl
      have hoc := okL_at ho i hlt
      have hlt' : (i : Int) < l.length := by omega
      have w1 : IntKind.i64.wrap ((i : Int) + 1) = ((i + 1 : Nat) : Int) := (wr _ (by omega) (by omega)).trans (by omega)
      generalize l[i] = c at hd hs hst hoc
      refine DW.skip ?_
      refine DW.seq ?_
      refine DW.block ?_
      refine DW.seq ?_
      refine DW.regs ?_
      refine RegO.opN 5 (by simp [w0, hd, hlt']; rfl) ?_
      refine RegO.step rfl (OpStep.callA rfl (by simp [w0, hd, hlt']; exact ⟨rfl, rfl⟩) (by simp [w0, hd, hlt']; rfl) (by exact szEntry_spec _ _ (by omega) (by omega) hoc) (by simp) (by simp [w0, hd, hlt']; rfl)) ?_
      refine RegO.opN 1 (by simp [w0, hd, hlt']; rfl) ?_
      refine RegO.nil ?_
      refine DW.seq ?_
      refine DW.reg (by simp [w0]; rfl) ?_
      refine DW.condB (by simp [w0]; exact rfl) (fun hc2 => ?_) (fun hc2 => ?_)
      · have hn : (left - (l.length : Int) + (i : Int) - (szL (l.take i) : Int)) - (Row.sz c : Int) < 0 := by simpa using hc2
        have hr : szr (left - (szL l : Int)) = -1 := szr_neg (by omega)
        refine DW.seq ?_
        refine DW.reg (by simp [w0]; rfl) ?_
        refine DW.ret ?_
        simp [Tryz.results162, hr]
      · have hn : ¬ ((left - (l.length : Int) + (i : Int) - (szL (l.take i) : Int)) - (Row.sz c : Int) < 0) := by simpa using hc2
        have hq : szr ((left - (l.length : Int) + (i : Int) - (szL (l.take i) : Int)) - (Row.sz c : Int)) = (left - (l.length : Int) + ((i + 1 : Nat) : Int) - (szL (l.take (i + 1)) : Int)) := by rw [szr_pos (by omega)]; omega
        refine DW.skip ?_
        refine DW.reg (by simp [w0, w1, hq]; rfl) ?_
        exact ⟨i + 1, ⟨hlt, by omega⟩, by omega, by simp [hq], by simp, by simp, by rfl⟩
    · have hil : i = l.length := by
        have : ¬ i < l.length := by simpa using hc1
        omega
      subst hil
      rw [List.take_length] at hp
      have hr : szr (left - (szL l : Int)) = left - (l.length : Int) + (l.length : Int) - (szL l : Int) := by rw [szr_pos (by omega)]; omega
      refine DW.exit ?_
      refine DW.seq ?_
      refine DW.reg (by simp [w0]; rfl) ?_
      refine DW.ret ?_
      simp [Tryz.results162, hr]
theorem szInode_spec (a : Inode) (left : Int) (h0 : 0 ≤ left) (h1 : left ≤ 1099511627776) (ho : Row.ok 281474976710656 a) : Spec Tryz.prog 113 [raInode a, ri left] [none] [di (szr (left - (Row.sz a : Int)))] [raInode a, ri left] := by
  refine Spec.intro Tryz.func113 rfl rfl Tryz.ntmps113 rfl (by simp) ?_
  have hz := Inode_sz a
  rw [Inode_ok] at ho
  obtain ⟨_, _, _, o0, o1, o2⟩ := ho
  have w0 : IntKind.i64.wrap (left - (a.Key.size : Int)) = left - (a.Key.size : Int) := wr _ (by omega) (by omega)
  refine DW.seq ?_
  refine DW.reg (by simp [w0]; rfl) ?_
  refine DW.seq ?_
  refine DW.reg (by simp [w0]; rfl) ?_
  refine DW.seq ?_
  refine DW.seq ?_
  refine DW.reg (by simp [w0]; rfl) ?_
  refine DW.condB (by simp [w0]; exact rfl) (fun hc0 => ?_) (fun hc0 => ?_)
  · have q0 : True := trivial
    have w1 : True := trivial
    have hn0 : left - (a.Key.size : Int) < 0 := by simpa using hc0
    have hr : szr (left - (Row.sz a : Int)) = -1 := szr_neg (by omega)
    refine DW.seq ?_
    refine DW.reg (by simp [q0, w0]; rfl) ?_
    refine DW.ret ?_
    simp [Tryz.results113, hr]
  · have hn0 : ¬ (left - (a.Key.size : Int) < 0) := by simpa using hc0
    have q0 : szr (left - (a.Key.size : Int)) = left - (a.Key.size : Int) := szr_pos (by omega)
    refine DW.skip ?_
    refine DW.seq ?_
    refine DW.regs ?_
    refine RegO.opN 3 (by simp [q0, w0]; rfl) ?_
    refine RegO.step rfl (OpStep.callA rfl (by simp [q0, w0]; exact ⟨rfl, rfl⟩) (by simp [q0, w0]; rfl) (by exact szRecS_spec _ _ (by omega) (by omega) o1) (by simp) (by simp [q0, w0]; rfl)) ?_
    refine RegO.opN 1 (by simp [q0, w0]; rfl) ?_
    refine RegO.nil ?_
    refine DW.seq ?_
    refine DW.seq ?_
    refine DW.reg (by simp [q0, w0]; rfl) ?_
    refine DW.condB (by simp [q0, w0]; exact rfl) (fun hc1 => ?_) (fun hc1 => ?_)
    · have q1 : True := trivial
      have w2 : True := trivial
      have hn1 : left - (a.Key.size : Int) - (szL a.Recs : Int) < 0 := by simpa using hc1
      have hr : szr (left - (Row.sz a : Int)) = -1 := szr_neg (by omega)
      refine DW.seq ?_
      refine DW.reg (by simp [q0, q1, w0]; rfl) ?_
      refine DW.ret ?_
      simp [Tryz.results113, hr]
    · have hn1 : ¬ (left - (a.Key.size : Int) - (szL a.Recs : Int) < 0) := by simpa using hc1
      have q1 : szr (left - (a.Key.size : Int) - (szL a.Recs : Int)) = left - (a.Key.size : Int) - (szL a.Recs : Int) := szr_pos (by omega)
      refine DW.skip ?_
      refine DW.seq ?_
      refine DW.regs ?_
      refine RegO.opN 3 (by simp [q0, q1, w0]; rfl) ?_
      refine RegO.step rfl (OpStep.callA rfl (by simp [q0, q1, w0]; exact ⟨rfl, rfl⟩) (by simp [q0, q1, w0]; rfl) (by exact szEntryS_spec _ _ (by omega) (by omega) o2) (by simp) (by simp [q0, q1, w0]; rfl)) ?_
      refine RegO.opN 1 (by simp [q0, q1, w0]; rfl) ?_
      refine RegO.nil ?_
      refine DW.seq ?_
      refine DW.seq ?_
      refine DW.reg (by simp [q0, q1, w0]; rfl) ?_
      refine DW.condB (by simp [q0, q1, w0]; exact rfl) (fun hc2 => ?_) (fun hc2 => ?_)
      · have q2 : True := trivial
        have w3 : True := trivial
        have hn2 : left - (a.Key.size : Int) - (szL a.Recs : Int) - (szL a.Entries : Int) < 0 := by simpa using hc2
        have hr : szr (left - (Row.sz a : Int)) = -1 := szr_neg (by omega)
        refine DW.seq ?_
        refine DW.reg (by simp [q0, q1, q2, w0]; rfl) ?_
        refine DW.ret ?_
        simp [Tryz.results113, hr]
      · have hn2 : ¬ (left - (a.Key.size : Int) - (szL a.Recs : Int) - (szL a.Entries : Int) < 0) := by simpa using hc2
        have q2 : szr (left - (a.Key.size : Int) - (szL a.Recs : Int) - (szL a.Entries : Int)) = left - (a.Key.size : Int) - (szL a.Recs : Int) - (szL a.Entries : Int) := szr_pos (by omega)
        have hr : szr (left - (Row.sz a : Int)) = left - (a.Key.size : Int) - (szL a.Recs : Int) - (szL a.Entries : Int) := by rw [szr_pos (by omega)]; omega
        refine DW.skip ?_
        refine DW.seq ?_
        refine DW.reg (by simp [q0, q1, q2, w0]; rfl) ?_
        refine DW.ret ?_
        simp [Tryz.results113, hr]
theorem szInodeS_spec (l : List Inode) (left : Int) (h0 : 0 ≤ left) (h1 : left ≤ 1099511627776) (ho : okL 281474976710656 l) : Spec Tryz.prog 44 [ra l, ri left] [none] [di (szr (left - (szL l : Int)))] [ra l, ri left] := by
  refine Spec.intro Tryz.func44 rfl rfl Tryz.ntmps44 rfl (by simp) ?_
  have hll := szL_len l
  have hl := ho.1
  have w0 : IntKind.i64.wrap (left - (l.length : Int)) = left - (l.length : Int) := wr _ (by omega) (by omega)
  refine DW.seq ?_
  refine DW.reg (by simp [w0]; rfl) ?_
  refine DW.seq ?_
  refine DW.reg (by simp [w0]; rfl) ?_
  refine DW.seq ?_
  refine DW.seq ?_
  refine DW.reg (by simp [w0]; rfl) ?_
  refine DW.condB (by simp [w0]; exact rfl) (fun hc0 => ?_) (fun hc0 => ?_)
  · have hn : left - (l.length : Int) < 0 := by simpa using hc0
    have hr : szr (left - (szL l : Int)) = -1 := szr_neg (by omega)
    refine DW.seq ?_
    refine DW.reg (by simp [w0]; rfl) ?_
    refine DW.ret ?_
    simp [Tryz.results44, hr]
  · have hn : ¬ (left - (l.length : Int) < 0) := by simpa using hc0
    refine DW.skip ?_
    refine DW.seq ?_
    refine DW.seq ?_
    refine DW.reg (by simp [w0]; rfl) ?_
    refine DW.block ?_
    refine DW.loopS (α := Nat) (fun i => i ≤ l.length ∧ 0 ≤ (left - (l.length : Int) + (i : Int) - (szL (l.take i) : Int))) (fun i => l.length - i) (fun i => [(5, vi i), (1, vi (left - (l.length : Int) + (i : Int) - (szL (l.take i) : Int)))]) (fun i => []) [(0, _)] [] [] 0 (⟨by omega, by simp; omega⟩) (by simp; exact rfl) (by simp) (by simp) (by rfl) ?_
    intro i hi
    obtain ⟨hi, hp⟩ := hi
    refine DW.seq ?_
    refine DW.seq ?_
    refine DW.reg (by simp [w0]; rfl) ?_
    refine DW.condB (by simp [w0]; exact rfl) (fun hc1 => ?_) (fun hc1 => ?_)
    · have hlt : i < l.length := by simpa using hc1
      have hd := rR_drop_Inode l i hlt
      have hs := szL_at l i hlt
      have hst := szL_take l i hlt
      have hdl := szL_len (l.drop (i + 1))
      rw [List.length_drop] at hdl
      have hoc := okL_at ho i hlt
      have hlt' : (i : Int) < l.length := by omega
      have w1 : IntKind.i64.wrap ((i : Int) + 1) = ((i + 1 : Nat) : Int) := (wr _ (by omega) (by omega)).trans (by omega)
      generalize l[i] = c at hd hs hst hoc
      refine DW.skip ?_
      refine DW.seq ?_
      refine DW.block ?_
      refine DW.seq ?_
      refine DW.regs ?_
      refine RegO.opN 5 (by simp [w0, hd, hlt']; rfl) ?_
      refine RegO.step rfl (OpStep.callA rfl (by simp [w0, hd, hlt']; exact ⟨rfl, rfl⟩) (by simp [w0, hd, hlt']; rfl) (by exact szInode_spec _ _ (by omega) (by omega) hoc) (by simp) (by simp [w0, hd, hlt']; rfl)) ?_
      refine RegO.opN 1 (by simp [w0, hd, hlt']; rfl) ?_
      refine RegO.nil ?_
      refine DW.seq ?_
      refine DW.reg (by simp [w0]; rfl) ?_
      refine DW.condB (by simp [w0]; exact rfl) (fun hc2 => ?_) (fun hc2 => ?_)
      · have hn : (left - (l.length : Int) + (i : Int) - (szL (l.take i) : Int)) - (Row.sz c : Int) < 0 := by simpa using hc2
        have hr : szr (left - (szL l : Int)) = -1 := szr_neg (by omega)
        refine DW.seq ?_
        refine DW.reg (by simp [w0]; rfl) ?_
        refine DW.ret ?_
        simp [Tryz.results44, hr]
      · have hn : ¬ ((left - (l.length : Int) + (i : Int) - (szL (l.take i) : Int)) - (Row.sz c : Int) < 0) := by simpa using hc2
        have hq : szr ((left - (l.length : Int) + (i : Int) - (szL (l.take i) : Int)) - (Row.sz c : Int)) = (left - (l.length : Int) + ((i + 1 : Nat) : Int) - (szL (l.take (i + 1)) : Int)) := by rw [szr_pos (by omega)]; omega
        refine DW.skip ?_
        refine DW.reg (by simp [w0, w1, hq]; rfl) ?_
        exact ⟨i + 1, ⟨hlt, by omega⟩, by omega, by simp [hq], by simp, by simp, by rfl⟩
    · have hil : i = l.length := by
        have : ¬ i < l.length := by simpa using hc1
        omega
      subst hil
      rw [List.take_length] at hp
      have hr : szr (left - (szL l : Int)) = left - (l.length : Int) + (l.length : Int) - (szL l : Int) := by rw [szr_pos (by omega)]; omega
      refine DW.exit ?_
      refine DW.seq ?_
      refine DW.reg (by simp [w0]; rfl) ?_
      refine DW.ret ?_
      simp [Tryz.results44, hr]
theorem szPart_spec (a : Part) (left : Int) (h0 : 0 ≤ left) (h1 : left ≤ 1099511627776) (ho : Row.ok 281474976710656 a) : Spec Tryz.prog 9 [raPart a, ri left] [none] [di (szr (left - (Row.sz a : Int)))] [raPart a, ri left] := by
  refine Spec.intro Tryz.func9 rfl rfl Tryz.ntmps9 rfl (by simp) ?_
  have hz := Part_sz a
  rw [Part_ok] at ho
  obtain ⟨_, o0, o1⟩ := ho
  have w0 : True := trivial
  refine DW.seq ?_
  refine DW.reg (by simp; rfl) ?_
  refine DW.seq ?_
  refine DW.regs ?_
  refine RegO.opN 3 (by simp; rfl) ?_
  refine RegO.step rfl (OpStep.callA rfl (by simp; exact ⟨rfl, rfl⟩) (by simp; rfl) (by exact szIntS_spec _ _ (by omega) (by omega) o0) (by simp) (by simp; rfl)) ?_
  refine RegO.opN 1 (by simp; rfl) ?_
  refine RegO.nil ?_
  refine DW.seq ?_
  refine DW.seq ?_
  refine DW.reg (by simp; rfl) ?_
  refine DW.condB (by simp; exact rfl) (fun hc0 => ?_) (fun hc0 => ?_)
  · have q0 : True := trivial
    have w1 : True := trivial
    have hn0 : left - (szL a.States : Int) < 0 := by simpa using hc0
    have hr : szr (left - (Row.sz a : Int)) = -1 := szr_neg (by omega)
    refine DW.seq ?_
    refine DW.reg (by simp [q0]; rfl) ?_
    refine DW.ret ?_
    simp [Tryz.results9, hr]
  · have hn0 : ¬ (left - (szL a.States : Int) < 0) := by simpa using hc0
    have q0 : szr (left - (szL a.States : Int)) = left - (szL a.States : Int) := szr_pos (by omega)
    refine DW.skip ?_
    refine DW.seq ?_
    refine DW.regs ?_
    refine RegO.opN 3 (by simp [q0]; rfl) ?_
    refine RegO.step rfl (OpStep.callA rfl (by simp [q0]; exact ⟨rfl, rfl⟩) (by simp [q0]; rfl) (by exact szInodeS_spec _ _ (by omega) (by omega) o1) (by simp) (by simp [q0]; rfl)) ?_
    refine RegO.opN 1 (by simp [q0]; rfl) ?_
    refine RegO.nil ?_
    refine DW.seq ?_
    refine DW.seq ?_
    refine DW.reg (by simp [q0]; rfl) ?_
    refine DW.condB (by simp [q0]; exact rfl) (fun hc1 => ?_) (fun hc1 => ?_)
    · have q1 : True := trivial
      have w2 : True := trivial
      have hn1 : left - (szL a.States : Int) - (szL a.Inodes : Int) < 0 := by simpa using hc1
      have hr : szr (left - (Row.sz a : Int)) = -1 := szr_neg (by omega)
      refine DW.seq ?_
      refine DW.reg (by simp [q0, q1]; rfl) ?_
      refine DW.ret ?_
      simp [Tryz.results9, hr]
    · have hn1 : ¬ (left - (szL a.States : Int) - (szL a.Inodes : Int) < 0) := by simpa using hc1
      have q1 : szr (left - (szL a.States : Int) - (szL a.Inodes : Int)) = left - (szL a.States : Int) - (szL a.Inodes : Int) := szr_pos (by omega)
      have hr : szr (left - (Row.sz a : Int)) = left - (szL a.States : Int) - (szL a.Inodes : Int) := by rw [szr_pos (by omega)]; omega
      refine DW.skip ?_
      refine DW.seq ?_
      refine DW.reg (by simp [q0, q1]; rfl) ?_
      refine DW.ret ?_
      simp [Tryz.results9, hr]
theorem toGeo_spec (a : Geo) (h : Row.sz a ≤ 2 ^ 36) : Spec Tryz.prog 11 [raGeo a] [some 4] (Geo.d a) [raGeo a] := by
  refine Spec.intro Tryz.func11 rfl rfl Tryz.ntmps11 rfl (by simp) ?_
  have hz := Geo_sz a
  refine DW.seq ?_
  refine DW.reg (by simp; rfl) ?_
  refine DW.seq ?_
  refine DW.reg (by simp; rfl) ?_
  refine DW.seq ?_
  refine DW.reg (by simp; rfl) ?_
  refine DW.seq ?_
  refine DW.reg (by simp; rfl) ?_
  refine DW.seq ?_
  refine DW.reg (by simp; rfl) ?_
  refine DW.seq ?_
  refine DW.reg (by simp; rfl) ?_
  refine DW.seq ?_
  refine DW.reg (by simp; rfl) ?_
  refine DW.ret ?_
  simp [Tryz.results11]
theorem toIntS_spec (l : List Int) (h : szL l ≤ 2 ^ 36) : Spec Tryz.prog 53 [ra l] [none] [dr l] [ra l] := by
  refine Spec.intro Tryz.func53 rfl rfl Tryz.ntmps53 rfl (by simp) ?_
  have hll := szL_len l
  have hb1 : (8 : Int) * l.length ≤ 281474976710656 := by omega
  have hb2 : (l.length : Int) ≤ 281474976710656 := by omega
  refine DW.seq ?_
  refine DW.reg (by simp; rfl) ?_
  refine DW.seq ?_
  refine DW.reg (by simp [hb1, hb2]; rfl) ?_
  refine DW.seq ?_
  refine DW.seq ?_
  refine DW.reg (by simp; rfl) ?_
  refine DW.block ?_
  refine DW.loopS (α := Nat) (fun i => i ≤ l.length) (fun i => l.length - i) (fun i => [(4, vi i)]) (fun i => [(7, .ow () 1 l.length (rD (l.take i) ++ List.replicate (l.length - i) (.sc (.int .i64 0) : D)))]) [(0, _), (3, _)] [] [] 0 (by simp) (by simp; exact ⟨rfl, rfl⟩) (by simp) (by simp) (by rfl) ?_
  intro i hi
  refine DW.seq ?_
  refine DW.seq ?_
  refine DW.reg (by simp; rfl) ?_
  refine DW.condB (by simp; exact rfl) (fun hc0 => ?_) (fun hc0 => ?_)
  · have hlt : i < l.length := by simpa using hc0
    have hd := rR_get_Int l i hlt
    have hs := szL_at l i hlt
    have hlt' : (i : Int) < l.length := by omega
    have w1 : IntKind.i64.wrap ((i : Int) + 1) = ((i + 1 : Nat) : Int) := (wr _ (by omega) (by omega)).trans (by omega)
    have hA : (rD (l.take i)).length = i := by rw [rD_len_Int, List.length_take, Nat.min_eq_left (by omega)]; omega
    have hz1 : List.replicate (l.length - i) (.sc (.int .i64 0) : D) = .sc (.int .i64 0) :: List.replicate (l.length - (i + 1)) (.sc (.int .i64 0) : D) := by rw [show l.length - i = (l.length - (i + 1)) + 1 by omega, List.replicate_succ]
    have hz2 : rD (l.take (i + 1)) = rD (l.take i) ++ Row.d l[i] := by rw [take_succ' l i hlt, rD_append]; simp [rD]
    simp only [Row.d] at hz2
    generalize l[i] = c at hd hs hz2
    refine DW.skip ?_
    refine DW.seq ?_
    refine DW.block ?_
    refine DW.reg (by simp [hd, hlt', hz1, app_get hA, app_get0 hA, app_set hA, app_set0 hA, Nat.add_assoc]; rfl) ?_
    refine DW.reg (by simp [w1]; rfl) ?_
    exact ⟨i + 1, hlt, by omega, by simp, by simp [hz2], by simp, by rfl⟩
  · have hil : i = l.length := by
      have : ¬ i < l.length := by simpa using hc0
      omega
    subst hil
    refine DW.exit ?_
    refine DW.seq ?_
    refine DW.reg (by simp; rfl) ?_
    refine DW.ret ?_
    simp [Tryz.results53]
theorem toRec_spec (a : Rec) (h : Row.sz a ≤ 2 ^ 36) : Spec Tryz.prog 215 [raRec a] [some 3] (Rec.d a) [raRec a] := by
  refine Spec.intro Tryz.func215 rfl rfl Tryz.ntmps215 rfl (by simp) ?_
  have hz := Rec_sz a
  refine DW.seq ?_
  refine DW.reg (by simp; rfl) ?_
  refine DW.seq ?_
  refine DW.reg (by simp; rfl) ?_
  refine DW.seq ?_
  refine DW.reg (by simp; rfl) ?_
  refine DW.seq ?_
  refine DW.reg (by simp; rfl) ?_
  refine DW.seq ?_
  refine DW.reg (by simp; rfl) ?_
  refine DW.seq ?_
  refine DW.reg (by simp; rfl) ?_
  refine DW.ret ?_
  simp [Tryz.results215]
theorem toRecS_spec (l : List Rec) (h : szL l ≤ 2 ^ 36) : Spec Tryz.prog 164 [ra l] [none] [dr l] [ra l] := by
  refine Spec.intro Tryz.func164 rfl rfl Tryz.ntmps164 rfl (by simp) ?_
  have hll := szL_len l
  have hb1 : (32 : Int) * l.length ≤ 281474976710656 := by omega
  have hb2 : (l.length : Int) ≤ 281474976710656 := by omega
  refine DW.seq ?_
  refine DW.reg (by simp; rfl) ?_
  refine DW.seq ?_
  refine DW.reg (by simp [hb1, hb2]; rfl) ?_
  refine DW.seq ?_
  refine DW.seq ?_
  refine DW.reg (by simp; rfl) ?_
  refine DW.block ?_
  refine DW.loopS (α := Nat) (fun i => i ≤ l.length) (fun i => l.length - i) (fun i => [(4, vi i)]) (fun i => [(7, .ow () 3 l.length (rD (l.take i) ++ (List.replicate (l.length - i) ([.sc (.int .i64 0), .sc (.int .i64 0), .sc (.string ByteArray.empty)] : List D)).flatten))]) [(0, _), (3, _)] [] [] 0 (by simp) (by simp; exact ⟨rfl, rfl⟩) (by simp) (by simp) (by rfl) ?_
  intro i hi
  refine DW.seq ?_
  refine DW.seq ?_
  refine DW.reg (by simp; rfl) ?_
  refine DW.condB (by simp; exact rfl) (fun hc0 => ?_) (fun hc0 => ?_)
  · have hlt : i < l.length := by simpa using hc0
    have hd := rR_drop_Rec l i hlt
    have hs := szL_at l i hlt
    have hlt' : (i : Int) < l.length := by omega
    have w1 : IntKind.i64.wrap ((i : Int) + 1) = ((i + 1 : Nat) : Int) := (wr _ (by omega) (by omega)).trans (by omega)
    have hA : (rD (l.take i)).length = i * 3 := by rw [rD_len_Rec, List.length_take, Nat.min_eq_left (by omega)]
    have hz1 : (List.replicate (l.length - i) ([.sc (.int .i64 0), .sc (.int .i64 0), .sc (.string ByteArray.empty)] : List D)).flatten = [.sc (.int .i64 0), .sc (.int .i64 0), .sc (.string ByteArray.empty)] ++ (List.replicate (l.length - (i + 1)) ([.sc (.int .i64 0), .sc (.int .i64 0), .sc (.string ByteArray.empty)] : List D)).flatten := by rw [show l.length - i = (l.length - (i + 1)) + 1 by omega, List.replicate_succ, List.flatten_cons]
    have hz2 : rD (l.take (i + 1)) = rD (l.take i) ++ Row.d l[i] := by rw [take_succ' l i hlt, rD_append]; simp [rD]
    simp only [Row.d] at hz2
    generalize l[i] = c at hd hs hz2
    refine DW.skip ?_
    refine DW.seq ?_
    refine DW.block ?_
    refine DW.regs ?_
    refine RegO.opN 6 (by simp [hd, hlt', hz1, app_get hA, app_get0 hA, app_set hA, app_set0 hA, Nat.add_assoc]; rfl) ?_
    refine RegO.step rfl (OpStep.callA rfl (by simp [hd, hlt', hz1, app_get hA, app_get0 hA, app_set hA, app_set0 hA, Nat.add_assoc]; exact ⟨rfl, rfl⟩) (by simp [hd, hlt', hz1, app_get hA, app_get0 hA, app_set hA, app_set0 hA, Nat.add_assoc]; rfl) (by exact toRec_spec _ (by omega)) (by simp) (by simp [hd, hlt', hz1, app_get hA, app_get0 hA, app_set hA, app_set0 hA, Nat.add_assoc]; rfl)) ?_
    refine RegO.opN 2 (by simp [hd, hlt', hz1, app_get hA, app_get0 hA, app_set hA, app_set0 hA, Nat.add_assoc]; rfl) ?_
    refine RegO.nil ?_
    refine DW.reg (by simp [w1]; rfl) ?_
    exact ⟨i + 1, hlt, by omega, by simp, by simp [hz2], by simp, by rfl⟩
  · have hil : i = l.length := by
      have : ¬ i < l.length := by simpa using hc0
      omega
    subst hil
    refine DW.exit ?_
    refine DW.seq ?_
    refine DW.reg (by simp; rfl) ?_
    refine DW.ret ?_
    simp [Tryz.results164]
theorem toEntry_spec (a : Entry) (h : Row.sz a ≤ 2 ^ 36) : Spec Tryz.prog 216 [raEntry a] [some 2] (Entry.d a) [raEntry a] := by
  refine Spec.intro Tryz.func216 rfl rfl Tryz.ntmps216 rfl (by simp) ?_
  have hz := Entry_sz a
  refine DW.seq ?_
  refine DW.reg (by simp; rfl) ?_
  refine DW.seq ?_
  refine DW.reg (by simp; rfl) ?_
  refine DW.seq ?_
  refine DW.reg (by simp; rfl) ?_
  refine DW.seq ?_
  refine DW.reg (by simp; rfl) ?_
  refine DW.seq ?_
  refine DW.reg (by simp; rfl) ?_
  refine DW.ret ?_
  simp [Tryz.results216]
theorem toEntryS_spec (l : List Entry) (h : szL l ≤ 2 ^ 36) : Spec Tryz.prog 165 [ra l] [none] [dr l] [ra l] := by
  refine Spec.intro Tryz.func165 rfl rfl Tryz.ntmps165 rfl (by simp) ?_
  have hll := szL_len l
  have hb1 : (24 : Int) * l.length ≤ 281474976710656 := by omega
  have hb2 : (l.length : Int) ≤ 281474976710656 := by omega
  refine DW.seq ?_
  refine DW.reg (by simp; rfl) ?_
  refine DW.seq ?_
  refine DW.reg (by simp [hb1, hb2]; rfl) ?_
  refine DW.seq ?_
  refine DW.seq ?_
  refine DW.reg (by simp; rfl) ?_
  refine DW.block ?_
  refine DW.loopS (α := Nat) (fun i => i ≤ l.length) (fun i => l.length - i) (fun i => [(4, vi i)]) (fun i => [(7, .ow () 2 l.length (rD (l.take i) ++ (List.replicate (l.length - i) ([.sc (.int .i64 0), .sc (.string ByteArray.empty)] : List D)).flatten))]) [(0, _), (3, _)] [] [] 0 (by simp) (by simp; exact ⟨rfl, rfl⟩) (by simp) (by simp) (by rfl) ?_
  intro i hi
  refine DW.seq ?_
  refine DW.seq ?_
  refine DW.reg (by simp; rfl) ?_
  refine DW.condB (by simp; exact rfl) (fun hc0 => ?_) (fun hc0 => ?_)
  · have hlt : i < l.length := by simpa using hc0
    have hd := rR_drop_Entry l i hlt
    have hs := szL_at l i hlt
    have hlt' : (i : Int) < l.length := by omega
    have w1 : IntKind.i64.wrap ((i : Int) + 1) = ((i + 1 : Nat) : Int) := (wr _ (by omega) (by omega)).trans (by omega)
    have hA : (rD (l.take i)).length = i * 2 := by rw [rD_len_Entry, List.length_take, Nat.min_eq_left (by omega)]
    have hz1 : (List.replicate (l.length - i) ([.sc (.int .i64 0), .sc (.string ByteArray.empty)] : List D)).flatten = [.sc (.int .i64 0), .sc (.string ByteArray.empty)] ++ (List.replicate (l.length - (i + 1)) ([.sc (.int .i64 0), .sc (.string ByteArray.empty)] : List D)).flatten := by rw [show l.length - i = (l.length - (i + 1)) + 1 by omega, List.replicate_succ, List.flatten_cons]
    have hz2 : rD (l.take (i + 1)) = rD (l.take i) ++ Row.d l[i] := by rw [take_succ' l i hlt, rD_append]; simp [rD]
    simp only [Row.d] at hz2
    generalize l[i] = c at hd hs hz2
    refine DW.skip ?_
    refine DW.seq ?_
    refine DW.block ?_
    refine DW.regs ?_
    refine RegO.opN 6 (by simp [hd, hlt', hz1, app_get hA, app_get0 hA, app_set hA, app_set0 hA, Nat.add_assoc]; rfl) ?_
    refine RegO.step rfl (OpStep.callA rfl (by simp [hd, hlt', hz1, app_get hA, app_get0 hA, app_set hA, app_set0 hA, Nat.add_assoc]; exact ⟨rfl, rfl⟩) (by simp [hd, hlt', hz1, app_get hA, app_get0 hA, app_set hA, app_set0 hA, Nat.add_assoc]; rfl) (by exact toEntry_spec _ (by omega)) (by simp) (by simp [hd, hlt', hz1, app_get hA, app_get0 hA, app_set hA, app_set0 hA, Nat.add_assoc]; rfl)) ?_
    refine RegO.opN 2 (by simp [hd, hlt', hz1, app_get hA, app_get0 hA, app_set hA, app_set0 hA, Nat.add_assoc]; rfl) ?_
    refine RegO.nil ?_
    refine DW.reg (by simp [w1]; rfl) ?_
    exact ⟨i + 1, hlt, by omega, by simp, by simp [hz2], by simp, by rfl⟩
  · have hil : i = l.length := by
      have : ¬ i < l.length := by simpa using hc0
      omega
    subst hil
    refine DW.exit ?_
    refine DW.seq ?_
    refine DW.reg (by simp; rfl) ?_
    refine DW.ret ?_
    simp [Tryz.results165]
theorem toInode_spec (a : Inode) (h : Row.sz a ≤ 2 ^ 36) : Spec Tryz.prog 120 [raInode a] [some 6] (Inode.d a) [raInode a] := by
  refine Spec.intro Tryz.func120 rfl rfl Tryz.ntmps120 rfl (by simp) ?_
  have hz := Inode_sz a
  refine DW.seq ?_
  refine DW.reg (by simp; rfl) ?_
  refine DW.seq ?_
  refine DW.reg (by simp; rfl) ?_
  refine DW.seq ?_
  refine DW.reg (by simp; rfl) ?_
  refine DW.seq ?_
  refine DW.reg (by simp; rfl) ?_
  refine DW.seq ?_
  refine DW.reg (by simp; rfl) ?_
  refine DW.seq ?_
  refine DW.reg (by simp; rfl) ?_
  refine DW.seq ?_
  refine DW.regs ?_
  refine RegO.opN 2 (by simp; rfl) ?_
  refine RegO.step rfl (OpStep.callA rfl (by simp; exact ⟨rfl, rfl⟩) (by simp; rfl) (by exact toRecS_spec _ (by omega)) (by simp) (by simp; rfl)) ?_
  refine RegO.opN 2 (by simp; rfl) ?_
  refine RegO.nil ?_
  refine DW.seq ?_
  refine DW.regs ?_
  refine RegO.opN 2 (by simp; rfl) ?_
  refine RegO.step rfl (OpStep.callA rfl (by simp; exact ⟨rfl, rfl⟩) (by simp; rfl) (by exact toEntryS_spec _ (by omega)) (by simp) (by simp; rfl)) ?_
  refine RegO.opN 2 (by simp; rfl) ?_
  refine RegO.nil ?_
  refine DW.seq ?_
  refine DW.reg (by simp; rfl) ?_
  refine DW.ret ?_
  simp [Tryz.results120]
theorem toInodeS_spec (l : List Inode) (h : szL l ≤ 2 ^ 36) : Spec Tryz.prog 54 [ra l] [none] [dr l] [ra l] := by
  refine Spec.intro Tryz.func54 rfl rfl Tryz.ntmps54 rfl (by simp) ?_
  have hll := szL_len l
  have hb1 : (88 : Int) * l.length ≤ 281474976710656 := by omega
  have hb2 : (l.length : Int) ≤ 281474976710656 := by omega
  refine DW.seq ?_
  refine DW.reg (by simp; rfl) ?_
  refine DW.seq ?_
  refine DW.reg (by simp [hb1, hb2]; rfl) ?_
  refine DW.seq ?_
  refine DW.seq ?_
  refine DW.reg (by simp; rfl) ?_
  refine DW.block ?_
  refine DW.loopS (α := Nat) (fun i => i ≤ l.length) (fun i => l.length - i) (fun i => [(4, vi i)]) (fun i => [(7, .ow () 6 l.length (rD (l.take i) ++ (List.replicate (l.length - i) ([.sc (.int .i64 0), .sc (.int .i64 0), .sc (.int .i64 0), .sc (.string ByteArray.empty), .ow () 0 0 [], .ow () 0 0 []] : List D)).flatten))]) [(0, _), (3, _)] [] [] 0 (by simp) (by simp; exact ⟨rfl, rfl⟩) (by simp) (by simp) (by rfl) ?_
  intro i hi
  refine DW.seq ?_
  refine DW.seq ?_
  refine DW.reg (by simp; rfl) ?_
  refine DW.condB (by simp; exact rfl) (fun hc0 => ?_) (fun hc0 => ?_)
  · have hlt : i < l.length := by simpa using hc0
    have hd := rR_drop_Inode l i hlt
    have hs := szL_at l i hlt
    have hlt' : (i : Int) < l.length := by omega
    have w1 : IntKind.i64.wrap ((i : Int) + 1) = ((i + 1 : Nat) : Int) := (wr _ (by omega) (by omega)).trans (by omega)
    have hA : (rD (l.take i)).length = i * 6 := by rw [rD_len_Inode, List.length_take, Nat.min_eq_left (by omega)]
    have hz1 : (List.replicate (l.length - i) ([.sc (.int .i64 0), .sc (.int .i64 0), .sc (.int .i64 0), .sc (.string ByteArray.empty), .ow () 0 0 [], .ow () 0 0 []] : List D)).flatten = [.sc (.int .i64 0), .sc (.int .i64 0), .sc (.int .i64 0), .sc (.string ByteArray.empty), .ow () 0 0 [], .ow () 0 0 []] ++ (List.replicate (l.length - (i + 1)) ([.sc (.int .i64 0), .sc (.int .i64 0), .sc (.int .i64 0), .sc (.string ByteArray.empty), .ow () 0 0 [], .ow () 0 0 []] : List D)).flatten := by rw [show l.length - i = (l.length - (i + 1)) + 1 by omega, List.replicate_succ, List.flatten_cons]
    have hz2 : rD (l.take (i + 1)) = rD (l.take i) ++ Row.d l[i] := by rw [take_succ' l i hlt, rD_append]; simp [rD]
    simp only [Row.d] at hz2
    generalize l[i] = c at hd hs hz2
    refine DW.skip ?_
    refine DW.seq ?_
    refine DW.block ?_
    refine DW.regs ?_
    refine RegO.opN 6 (by simp [hd, hlt', hz1, app_get hA, app_get0 hA, app_set hA, app_set0 hA, Nat.add_assoc]; rfl) ?_
    refine RegO.step rfl (OpStep.callA rfl (by simp [hd, hlt', hz1, app_get hA, app_get0 hA, app_set hA, app_set0 hA, Nat.add_assoc]; exact ⟨rfl, rfl⟩) (by simp [hd, hlt', hz1, app_get hA, app_get0 hA, app_set hA, app_set0 hA, Nat.add_assoc]; rfl) (by exact toInode_spec _ (by omega)) (by simp) (by simp [hd, hlt', hz1, app_get hA, app_get0 hA, app_set hA, app_set0 hA, Nat.add_assoc]; rfl)) ?_
    refine RegO.opN 2 (by simp [hd, hlt', hz1, app_get hA, app_get0 hA, app_set hA, app_set0 hA, Nat.add_assoc]; rfl) ?_
    refine RegO.nil ?_
    refine DW.reg (by simp [w1]; rfl) ?_
    exact ⟨i + 1, hlt, by omega, by simp, by simp [hz2], by simp, by rfl⟩
  · have hil : i = l.length := by
      have : ¬ i < l.length := by simpa using hc0
      omega
    subst hil
    refine DW.exit ?_
    refine DW.seq ?_
    refine DW.reg (by simp; rfl) ?_
    refine DW.ret ?_
    simp [Tryz.results54]
theorem toPart_spec (a : Part) (h : Row.sz a ≤ 2 ^ 36) : Spec Tryz.prog 12 [raPart a] [some 3] (Part.d a) [raPart a] := by
  refine Spec.intro Tryz.func12 rfl rfl Tryz.ntmps12 rfl (by simp) ?_
  have hz := Part_sz a
  refine DW.seq ?_
  refine DW.reg (by simp; rfl) ?_
  refine DW.seq ?_
  refine DW.reg (by simp; rfl) ?_
  refine DW.seq ?_
  refine DW.reg (by simp; rfl) ?_
  refine DW.seq ?_
  refine DW.regs ?_
  refine RegO.opN 2 (by simp; rfl) ?_
  refine RegO.step rfl (OpStep.callA rfl (by simp; exact ⟨rfl, rfl⟩) (by simp; rfl) (by exact toIntS_spec _ (by omega)) (by simp) (by simp; rfl)) ?_
  refine RegO.opN 2 (by simp; rfl) ?_
  refine RegO.nil ?_
  refine DW.seq ?_
  refine DW.regs ?_
  refine RegO.opN 2 (by simp; rfl) ?_
  refine RegO.step rfl (OpStep.callA rfl (by simp; exact ⟨rfl, rfl⟩) (by simp; rfl) (by exact toInodeS_spec _ (by omega)) (by simp) (by simp; rfl)) ?_
  refine RegO.opN 2 (by simp; rfl) ?_
  refine RegO.nil ?_
  refine DW.seq ?_
  refine DW.reg (by simp; rfl) ?_
  refine DW.ret ?_
  simp [Tryz.results12]
theorem eqStep_spec (a : Step) (h : Row.sz a ≤ 2 ^ 36) : Spec Tryz.prog 66 [raStep a, raStep a] [none] [db true] [raStep a, raStep a] := by
  refine Spec.intro Tryz.func66 rfl rfl Tryz.ntmps66 rfl (by simp) ?_
  have hz := Step_sz a
  refine DW.seq ?_
  refine DW.reg (by simp; rfl) ?_
  refine DW.seq ?_
  refine DW.seq ?_
  refine DW.reg (by simp; rfl) ?_
  refine DW.condF (by simp) ?_
  refine DW.skip ?_
  refine DW.seq ?_
  refine DW.seq ?_
  refine DW.reg (by simp; rfl) ?_
  refine DW.condF (by simp) ?_
  refine DW.skip ?_
  refine DW.seq ?_
  refine DW.seq ?_
  refine DW.reg (by simp; rfl) ?_
  refine DW.condF (by simp) ?_
  refine DW.skip ?_
  refine DW.seq ?_
  refine DW.reg (by simp; rfl) ?_
  refine DW.ret ?_
  simp [Tryz.results66]
theorem eqStepS_spec (l : List Step) (h : szL l ≤ 2 ^ 36) : Spec Tryz.prog 14 [ra l, ra l] [none] [db true] [ra l, ra l] := by
  refine Spec.intro Tryz.func14 rfl rfl Tryz.ntmps14 rfl (by simp) ?_
  have hll := szL_len l
  refine DW.seq ?_
  refine DW.reg (by simp; rfl) ?_
  refine DW.seq ?_
  refine DW.seq ?_
  refine DW.reg (by simp; rfl) ?_
  refine DW.condF (by simp) ?_
  refine DW.skip ?_
  refine DW.seq ?_
  refine DW.seq ?_
  refine DW.reg (by simp; rfl) ?_
  refine DW.block ?_
  refine DW.loopS (α := Nat) (fun i => i ≤ l.length) (fun i => l.length - i) (fun i => [(5, vi i)]) (fun i => []) [(0, _), (1, _)] [] [] 0 (by simp) (by simp; exact ⟨rfl, rfl⟩) (by simp) (by simp) (by rfl) ?_
  intro i hi
  refine DW.seq ?_
  refine DW.seq ?_
  refine DW.reg (by simp; rfl) ?_
  refine DW.condB (by simp; exact rfl) (fun hc1 => ?_) (fun hc1 => ?_)
  · have hlt : i < l.length := by simpa using hc1
    have hd := rR_drop_Step l i hlt
    have hs := szL_at l i hlt
    have hlt' : (i : Int) < l.length := by omega
    have w1 : IntKind.i64.wrap ((i : Int) + 1) = ((i + 1 : Nat) : Int) := (wr _ (by omega) (by omega)).trans (by omega)
    generalize l[i] = c at hd hs
    refine DW.skip ?_
    refine DW.seq ?_
    refine DW.block ?_
    refine DW.seq ?_
    refine DW.drawn mixed (by kernel_rfl) ?_
    refine RegD.addN 8 (by simp [hd, hlt']; (first | done | exact ⟨rfl, rfl⟩ | rfl)) ?_
    refine RegD.cert (Cert.callA rfl (by simp) rfl (by decide) (by simp [hd, hlt']; exact ⟨rfl, rfl⟩) (by simp [hd, hlt']; rfl) (by exact eqStep_spec _ (by omega)) rfl (by simp) (by simp; rfl) rfl) ?_
    refine RegD.addN 1 (by simp [hd, hlt']; (first | done | exact ⟨rfl, rfl⟩ | rfl)) ?_
    refine RegD.nil ⟨by kernel_rfl, ?_⟩
    refine DW.condF (by simp) ?_
    refine DW.skip ?_
    refine DW.reg (by simp [w1]; rfl) ?_
    exact ⟨i + 1, hlt, by omega, by simp, by simp, by simp, by rfl⟩
  · refine DW.exit ?_
    refine DW.seq ?_
    refine DW.reg (by simp; rfl) ?_
    refine DW.ret ?_
    simp [Tryz.results14]
theorem eqIntS_spec (l : List Int) (h : szL l ≤ 2 ^ 36) : Spec Tryz.prog 67 [ra l, ra l] [none] [db true] [ra l, ra l] := by
  refine Spec.intro Tryz.func67 rfl rfl Tryz.ntmps67 rfl (by simp) ?_
  have hll := szL_len l
  refine DW.seq ?_
  refine DW.reg (by simp; rfl) ?_
  refine DW.seq ?_
  refine DW.seq ?_
  refine DW.reg (by simp; rfl) ?_
  refine DW.condF (by simp) ?_
  refine DW.skip ?_
  refine DW.seq ?_
  refine DW.seq ?_
  refine DW.reg (by simp; rfl) ?_
  refine DW.block ?_
  refine DW.loopS (α := Nat) (fun i => i ≤ l.length) (fun i => l.length - i) (fun i => [(5, vi i)]) (fun i => []) [(0, _), (1, _)] [] [] 0 (by simp) (by simp; exact ⟨rfl, rfl⟩) (by simp) (by simp) (by rfl) ?_
  intro i hi
  refine DW.seq ?_
  refine DW.seq ?_
  refine DW.reg (by simp; rfl) ?_
  refine DW.condB (by simp; exact rfl) (fun hc1 => ?_) (fun hc1 => ?_)
  · have hlt : i < l.length := by simpa using hc1
    have hd := rR_get_Int l i hlt
    have hs := szL_at l i hlt
    have hlt' : (i : Int) < l.length := by omega
    have w1 : IntKind.i64.wrap ((i : Int) + 1) = ((i + 1 : Nat) : Int) := (wr _ (by omega) (by omega)).trans (by omega)
    generalize l[i] = c at hd hs
    refine DW.skip ?_
    refine DW.seq ?_
    refine DW.block ?_
    refine DW.seq ?_
    refine DW.drawn mixed (by kernel_rfl) ?_
    refine RegD.addN 9 (by simp [hd, hlt']; (first | done | exact ⟨rfl, rfl⟩ | rfl)) ?_
    refine RegD.nil ⟨by kernel_rfl, ?_⟩
    refine DW.condF (by simp) ?_
    refine DW.skip ?_
    refine DW.reg (by simp [w1]; rfl) ?_
    exact ⟨i + 1, hlt, by omega, by simp, by simp, by simp, by rfl⟩
  · refine DW.exit ?_
    refine DW.seq ?_
    refine DW.reg (by simp; rfl) ?_
    refine DW.ret ?_
    simp [Tryz.results67]
theorem eqRec_spec (a : Rec) (h : Row.sz a ≤ 2 ^ 36) : Spec Tryz.prog 224 [raRec a, raRec a] [none] [db true] [raRec a, raRec a] := by
  refine Spec.intro Tryz.func224 rfl rfl Tryz.ntmps224 rfl (by simp) ?_
  have hz := Rec_sz a
  refine DW.seq ?_
  refine DW.reg (by simp; rfl) ?_
  refine DW.seq ?_
  refine DW.seq ?_
  refine DW.reg (by simp; rfl) ?_
  refine DW.condF (by simp) ?_
  refine DW.skip ?_
  refine DW.seq ?_
  refine DW.seq ?_
  refine DW.reg (by simp; rfl) ?_
  refine DW.condF (by simp) ?_
  refine DW.skip ?_
  refine DW.seq ?_
  refine DW.seq ?_
  refine DW.reg (by simp; rfl) ?_
  refine DW.condF (by simp) ?_
  refine DW.skip ?_
  refine DW.seq ?_
  refine DW.reg (by simp; rfl) ?_
  refine DW.ret ?_
  simp [Tryz.results224]
theorem eqRecS_spec (l : List Rec) (h : szL l ≤ 2 ^ 36) : Spec Tryz.prog 175 [ra l, ra l] [none] [db true] [ra l, ra l] := by
  refine Spec.intro Tryz.func175 rfl rfl Tryz.ntmps175 rfl (by simp) ?_
  have hll := szL_len l
  refine DW.seq ?_
  refine DW.reg (by simp; rfl) ?_
  refine DW.seq ?_
  refine DW.seq ?_
  refine DW.reg (by simp; rfl) ?_
  refine DW.condF (by simp) ?_
  refine DW.skip ?_
  refine DW.seq ?_
  refine DW.seq ?_
  refine DW.reg (by simp; rfl) ?_
  refine DW.block ?_
  refine DW.loopS (α := Nat) (fun i => i ≤ l.length) (fun i => l.length - i) (fun i => [(5, vi i)]) (fun i => []) [(0, _), (1, _)] [] [] 0 (by simp) (by simp; exact ⟨rfl, rfl⟩) (by simp) (by simp) (by rfl) ?_
  intro i hi
  refine DW.seq ?_
  refine DW.seq ?_
  refine DW.reg (by simp; rfl) ?_
  refine DW.condB (by simp; exact rfl) (fun hc1 => ?_) (fun hc1 => ?_)
  · have hlt : i < l.length := by simpa using hc1
    have hd := rR_drop_Rec l i hlt
    have hs := szL_at l i hlt
    have hlt' : (i : Int) < l.length := by omega
    have w1 : IntKind.i64.wrap ((i : Int) + 1) = ((i + 1 : Nat) : Int) := (wr _ (by omega) (by omega)).trans (by omega)
    generalize l[i] = c at hd hs
    refine DW.skip ?_
    refine DW.seq ?_
    refine DW.block ?_
    refine DW.seq ?_
    refine DW.drawn mixed (by kernel_rfl) ?_
    refine RegD.addN 8 (by simp [hd, hlt']; (first | done | exact ⟨rfl, rfl⟩ | rfl)) ?_
    refine RegD.cert (Cert.callA rfl (by simp) rfl (by decide) (by simp [hd, hlt']; exact ⟨rfl, rfl⟩) (by simp [hd, hlt']; rfl) (by exact eqRec_spec _ (by omega)) rfl (by simp) (by simp; rfl) rfl) ?_
    refine RegD.addN 1 (by simp [hd, hlt']; (first | done | exact ⟨rfl, rfl⟩ | rfl)) ?_
    refine RegD.nil ⟨by kernel_rfl, ?_⟩
    refine DW.condF (by simp) ?_
    refine DW.skip ?_
    refine DW.reg (by simp [w1]; rfl) ?_
    exact ⟨i + 1, hlt, by omega, by simp, by simp, by simp, by rfl⟩
  · refine DW.exit ?_
    refine DW.seq ?_
    refine DW.reg (by simp; rfl) ?_
    refine DW.ret ?_
    simp [Tryz.results175]
theorem eqEntry_spec (a : Entry) (h : Row.sz a ≤ 2 ^ 36) : Spec Tryz.prog 225 [raEntry a, raEntry a] [none] [db true] [raEntry a, raEntry a] := by
  refine Spec.intro Tryz.func225 rfl rfl Tryz.ntmps225 rfl (by simp) ?_
  have hz := Entry_sz a
  refine DW.seq ?_
  refine DW.reg (by simp; rfl) ?_
  refine DW.seq ?_
  refine DW.seq ?_
  refine DW.reg (by simp; rfl) ?_
  refine DW.condF (by simp) ?_
  refine DW.skip ?_
  refine DW.seq ?_
  refine DW.seq ?_
  refine DW.reg (by simp; rfl) ?_
  refine DW.condF (by simp) ?_
  refine DW.skip ?_
  refine DW.seq ?_
  refine DW.reg (by simp; rfl) ?_
  refine DW.ret ?_
  simp [Tryz.results225]
theorem eqEntryS_spec (l : List Entry) (h : szL l ≤ 2 ^ 36) : Spec Tryz.prog 176 [ra l, ra l] [none] [db true] [ra l, ra l] := by
  refine Spec.intro Tryz.func176 rfl rfl Tryz.ntmps176 rfl (by simp) ?_
  have hll := szL_len l
  refine DW.seq ?_
  refine DW.reg (by simp; rfl) ?_
  refine DW.seq ?_
  refine DW.seq ?_
  refine DW.reg (by simp; rfl) ?_
  refine DW.condF (by simp) ?_
  refine DW.skip ?_
  refine DW.seq ?_
  refine DW.seq ?_
  refine DW.reg (by simp; rfl) ?_
  refine DW.block ?_
  refine DW.loopS (α := Nat) (fun i => i ≤ l.length) (fun i => l.length - i) (fun i => [(5, vi i)]) (fun i => []) [(0, _), (1, _)] [] [] 0 (by simp) (by simp; exact ⟨rfl, rfl⟩) (by simp) (by simp) (by rfl) ?_
  intro i hi
  refine DW.seq ?_
  refine DW.seq ?_
  refine DW.reg (by simp; rfl) ?_
  refine DW.condB (by simp; exact rfl) (fun hc1 => ?_) (fun hc1 => ?_)
  · have hlt : i < l.length := by simpa using hc1
    have hd := rR_drop_Entry l i hlt
    have hs := szL_at l i hlt
    have hlt' : (i : Int) < l.length := by omega
    have w1 : IntKind.i64.wrap ((i : Int) + 1) = ((i + 1 : Nat) : Int) := (wr _ (by omega) (by omega)).trans (by omega)
    generalize l[i] = c at hd hs
    refine DW.skip ?_
    refine DW.seq ?_
    refine DW.block ?_
    refine DW.seq ?_
    refine DW.drawn mixed (by kernel_rfl) ?_
    refine RegD.addN 8 (by simp [hd, hlt']; (first | done | exact ⟨rfl, rfl⟩ | rfl)) ?_
    refine RegD.cert (Cert.callA rfl (by simp) rfl (by decide) (by simp [hd, hlt']; exact ⟨rfl, rfl⟩) (by simp [hd, hlt']; rfl) (by exact eqEntry_spec _ (by omega)) rfl (by simp) (by simp; rfl) rfl) ?_
    refine RegD.addN 1 (by simp [hd, hlt']; (first | done | exact ⟨rfl, rfl⟩ | rfl)) ?_
    refine RegD.nil ⟨by kernel_rfl, ?_⟩
    refine DW.condF (by simp) ?_
    refine DW.skip ?_
    refine DW.reg (by simp [w1]; rfl) ?_
    exact ⟨i + 1, hlt, by omega, by simp, by simp, by simp, by rfl⟩
  · refine DW.exit ?_
    refine DW.seq ?_
    refine DW.reg (by simp; rfl) ?_
    refine DW.ret ?_
    simp [Tryz.results176]
theorem eqInode_spec (a : Inode) (h : Row.sz a ≤ 2 ^ 36) : Spec Tryz.prog 128 [raInode a, raInode a] [none] [db true] [raInode a, raInode a] := by
  refine Spec.intro Tryz.func128 rfl rfl Tryz.ntmps128 rfl (by simp) ?_
  have hz := Inode_sz a
  refine DW.seq ?_
  refine DW.reg (by simp; rfl) ?_
  refine DW.seq ?_
  refine DW.seq ?_
  refine DW.reg (by simp; rfl) ?_
  refine DW.condF (by simp) ?_
  refine DW.skip ?_
  refine DW.seq ?_
  refine DW.seq ?_
  refine DW.reg (by simp; rfl) ?_
  refine DW.condF (by simp) ?_
  refine DW.skip ?_
  refine DW.seq ?_
  refine DW.seq ?_
  refine DW.reg (by simp; rfl) ?_
  refine DW.condF (by simp) ?_
  refine DW.skip ?_
  refine DW.seq ?_
  refine DW.seq ?_
  refine DW.reg (by simp; rfl) ?_
  refine DW.condF (by simp) ?_
  refine DW.skip ?_
  refine DW.seq ?_
  refine DW.seq ?_
  refine DW.regs ?_
  refine RegO.opN 4 (by simp; rfl) ?_
  refine RegO.step rfl (OpStep.callA rfl (by simp; exact ⟨rfl, rfl⟩) (by simp; rfl) (by exact eqRecS_spec _ (by omega)) (by simp) (by simp; rfl)) ?_
  refine RegO.opN 1 (by simp; rfl) ?_
  refine RegO.nil ?_
  refine DW.condF (by simp) ?_
  refine DW.skip ?_
  refine DW.seq ?_
  refine DW.seq ?_
  refine DW.regs ?_
  refine RegO.opN 4 (by simp; rfl) ?_
  refine RegO.step rfl (OpStep.callA rfl (by simp; exact ⟨rfl, rfl⟩) (by simp; rfl) (by exact eqEntryS_spec _ (by omega)) (by simp) (by simp; rfl)) ?_
  refine RegO.opN 1 (by simp; rfl) ?_
  refine RegO.nil ?_
  refine DW.condF (by simp) ?_
  refine DW.skip ?_
  refine DW.seq ?_
  refine DW.reg (by simp; rfl) ?_
  refine DW.ret ?_
  simp [Tryz.results128]
theorem eqInodeS_spec (l : List Inode) (h : szL l ≤ 2 ^ 36) : Spec Tryz.prog 68 [ra l, ra l] [none] [db true] [ra l, ra l] := by
  refine Spec.intro Tryz.func68 rfl rfl Tryz.ntmps68 rfl (by simp) ?_
  have hll := szL_len l
  refine DW.seq ?_
  refine DW.reg (by simp; rfl) ?_
  refine DW.seq ?_
  refine DW.seq ?_
  refine DW.reg (by simp; rfl) ?_
  refine DW.condF (by simp) ?_
  refine DW.skip ?_
  refine DW.seq ?_
  refine DW.seq ?_
  refine DW.reg (by simp; rfl) ?_
  refine DW.block ?_
  refine DW.loopS (α := Nat) (fun i => i ≤ l.length) (fun i => l.length - i) (fun i => [(5, vi i)]) (fun i => []) [(0, _), (1, _)] [] [] 0 (by simp) (by simp; exact ⟨rfl, rfl⟩) (by simp) (by simp) (by rfl) ?_
  intro i hi
  refine DW.seq ?_
  refine DW.seq ?_
  refine DW.reg (by simp; rfl) ?_
  refine DW.condB (by simp; exact rfl) (fun hc1 => ?_) (fun hc1 => ?_)
  · have hlt : i < l.length := by simpa using hc1
    have hd := rR_drop_Inode l i hlt
    have hs := szL_at l i hlt
    have hlt' : (i : Int) < l.length := by omega
    have w1 : IntKind.i64.wrap ((i : Int) + 1) = ((i + 1 : Nat) : Int) := (wr _ (by omega) (by omega)).trans (by omega)
    generalize l[i] = c at hd hs
    refine DW.skip ?_
    refine DW.seq ?_
    refine DW.block ?_
    refine DW.seq ?_
    refine DW.drawn mixed (by kernel_rfl) ?_
    refine RegD.addN 8 (by simp [hd, hlt']; (first | done | exact ⟨rfl, rfl⟩ | rfl)) ?_
    refine RegD.cert (Cert.callA rfl (by simp) rfl (by decide) (by simp [hd, hlt']; exact ⟨rfl, rfl⟩) (by simp [hd, hlt']; rfl) (by exact eqInode_spec _ (by omega)) rfl (by simp) (by simp; rfl) rfl) ?_
    refine RegD.addN 1 (by simp [hd, hlt']; (first | done | exact ⟨rfl, rfl⟩ | rfl)) ?_
    refine RegD.nil ⟨by kernel_rfl, ?_⟩
    refine DW.condF (by simp) ?_
    refine DW.skip ?_
    refine DW.reg (by simp [w1]; rfl) ?_
    exact ⟨i + 1, hlt, by omega, by simp, by simp, by simp, by rfl⟩
  · refine DW.exit ?_
    refine DW.seq ?_
    refine DW.reg (by simp; rfl) ?_
    refine DW.ret ?_
    simp [Tryz.results68]
theorem eqPart_spec (a : Part) (h : Row.sz a ≤ 2 ^ 36) : Spec Tryz.prog 15 [raPart a, raPart a] [none] [db true] [raPart a, raPart a] := by
  refine Spec.intro Tryz.func15 rfl rfl Tryz.ntmps15 rfl (by simp) ?_
  have hz := Part_sz a
  refine DW.seq ?_
  refine DW.reg (by simp; rfl) ?_
  refine DW.seq ?_
  refine DW.seq ?_
  refine DW.reg (by simp; rfl) ?_
  refine DW.condF (by simp) ?_
  refine DW.skip ?_
  refine DW.seq ?_
  refine DW.seq ?_
  refine DW.regs ?_
  refine RegO.opN 4 (by simp; rfl) ?_
  refine RegO.step rfl (OpStep.callA rfl (by simp; exact ⟨rfl, rfl⟩) (by simp; rfl) (by exact eqIntS_spec _ (by omega)) (by simp) (by simp; rfl)) ?_
  refine RegO.opN 1 (by simp; rfl) ?_
  refine RegO.nil ?_
  refine DW.condF (by simp) ?_
  refine DW.skip ?_
  refine DW.seq ?_
  refine DW.seq ?_
  refine DW.regs ?_
  refine RegO.opN 4 (by simp; rfl) ?_
  refine RegO.step rfl (OpStep.callA rfl (by simp; exact ⟨rfl, rfl⟩) (by simp; rfl) (by exact eqInodeS_spec _ (by omega)) (by simp) (by simp; rfl)) ?_
  refine RegO.opN 1 (by simp; rfl) ?_
  refine RegO.nil ?_
  refine DW.condF (by simp) ?_
  refine DW.skip ?_
  refine DW.seq ?_
  refine DW.reg (by simp; rfl) ?_
  refine DW.ret ?_
  simp [Tryz.results15]
theorem markIntS_spec (l : List Int) (k : Int) (h0 : 0 < k) (h1 : k + (ctL l : Int) ≤ 1152921504606846976) (h : szL l ≤ 2 ^ 36) : Spec Tryz.prog 69 [.one (.m 1 l.length (rD l)), ri k] [none] [di (k + (ctL l : Int))] [.one (.m 1 l.length (rD (mkL l k))), ri k] := by
  refine Spec.intro Tryz.func69 rfl rfl Tryz.ntmps69 rfl (by simp) ?_
  have hll := szL_len l
  refine DW.seq ?_
  refine DW.reg (by simp; rfl) ?_
  refine DW.seq ?_
  refine DW.seq ?_
  refine DW.reg (by simp; rfl) ?_
  refine DW.block ?_
  refine DW.loopS (α := Nat × Int) (fun p => p.1 ≤ l.length ∧ p.2 = k + (ctL (l.take p.1) : Int)) (fun p => l.length - p.1) (fun p => [(5, vi p.1), (1, vi p.2)]) (fun p => [(0, .hold [.ow () 1 l.length (rD (mkL (l.take p.1) k) ++ rD (l.drop p.1))])]) [(0, _)] [] [(0, .sl 0 [0] 0 l.length)] (0, k) (⟨Nat.zero_le _, by simp⟩) (by simp; exact rfl) (by simp) (by simp) (by rfl) ?_
  rintro ⟨i, K⟩ ⟨hi, hK⟩
  simp only at hi hK ⊢
  refine DW.seq ?_
  refine DW.seq ?_
  refine DW.reg (by simp; rfl) ?_
  refine DW.condB (by simp; exact rfl) (fun hc0 => ?_) (fun hc0 => ?_)
  · have hlt : i < l.length := by simpa using hc0
    have hd := rD_dropc l i hlt
    have hs := szL_at l i hlt
    have hct := ctL_take l i hlt
    have hca := ctL_at l i hlt
    have hm := mkL_take l i k hlt
    replace hm := congrArg rD hm
    rw [rD_append, ← hK] at hm
    have hlt' : (i : Int) < l.length := by omega
    have w1 : IntKind.i64.wrap ((i : Int) + 1) = ((i + 1 : Nat) : Int) := (wr _ (by omega) (by omega)).trans (by omega)
    have hA : (rD (mkL (l.take i) k)).length = i := by rw [rD_len_Int, mkL_len, List.length_take, Nat.min_eq_left (by omega)]; omega
    generalize l[i] = c at hd hs hct hca hm
    have hcc : Row.ct c = 1 := rfl
    have hm' : rD (mkL (l.take (i + 1)) k) = rD (mkL (l.take i) k) ++ [T.sc (.int .i64 K)] := hm
    clear hm
    have hm := hm'
    have hd' : rD (l.drop i) = [T.sc (.int .i64 c)] ++ rD (l.drop (i + 1)) := hd
    clear hd
    have hd := hd'
    have t0 : 0 < K ∧ K < 4611686018427387904 := ⟨by omega, by omega⟩
    obtain v1 : IntKind.i64.wrap (K + 1) = K + 1 := (wr _ (by omega) (by omega)).trans (by omega)
    refine DW.skip ?_
    refine DW.seq ?_
    refine DW.block ?_
    refine DW.seq ?_
    refine DW.reg (by simp [hd, hlt', app_get hA, app_get0 hA, app_set hA, app_set0 hA, Nat.add_assoc]; rfl) ?_
    refine DW.reg (by simp [v1]; rfl) ?_
    refine DW.reg (by simp [w1]; rfl) ?_
    clear v1
    exact ⟨(i + 1, K + 1), ⟨hlt, by simp only; omega⟩, by simp only; omega, by simp, by simp [hm, mb], by simp, by rfl⟩
  · have hil : i = l.length := by
      have : ¬ i < l.length := by simpa using hc0
      omega
    subst hil
    rw [List.take_length] at hK
    refine DW.exit ?_
    refine DW.seq ?_
    refine DW.reg (by simp; rfl) ?_
    refine DW.ret ?_
    simp [Tryz.results69, hK]
theorem markIntS_spec0 (k : Int) : Spec Tryz.prog 69 [.one (.r (.sl 0 [])), ri k] [none] [di k] [.one (.r (.sl 0 [])), ri k] := by
  refine Spec.intro Tryz.func69 rfl rfl Tryz.ntmps69 rfl (by simp) ?_
  refine DW.seq ?_
  refine DW.reg (by simp; rfl) ?_
  refine DW.seq ?_
  refine DW.seq ?_
  refine DW.reg (by simp; rfl) ?_
  refine DW.block ?_
  refine DW.loopS (α := Nat) (fun p => True) (fun p => p) (fun p => [(5, vi 0), (1, vi k)]) (fun p => []) [(0, _)] [] [] 0 (trivial) (by simp; exact rfl) (by simp) (by simp) (by rfl) ?_
  rintro p -
  refine DW.seq ?_
  refine DW.seq ?_
  refine DW.reg (by simp; rfl) ?_
  refine DW.condF (by simp) ?_
  refine DW.exit ?_
  refine DW.seq ?_
  refine DW.reg (by simp; rfl) ?_
  refine DW.ret ?_
  simp [Tryz.results69]
theorem markRecS_spec (l : List Rec) (k : Int) (h0 : 0 < k) (h1 : k + (ctL l : Int) ≤ 1152921504606846976) (h : szL l ≤ 2 ^ 36) : Spec Tryz.prog 129 [.one (.m 3 l.length (rD l)), ri k] [none] [di (k + (ctL l : Int))] [.one (.m 3 l.length (rD (mkL l k))), ri k] := by
  refine Spec.intro Tryz.func129 rfl rfl Tryz.ntmps129 rfl (by simp) ?_
  have hll := szL_len l
  refine DW.seq ?_
  refine DW.reg (by simp; rfl) ?_
  refine DW.seq ?_
  refine DW.seq ?_
  refine DW.reg (by simp; rfl) ?_
  refine DW.block ?_
  refine DW.loopS (α := Nat × Int) (fun p => p.1 ≤ l.length ∧ p.2 = k + (ctL (l.take p.1) : Int)) (fun p => l.length - p.1) (fun p => [(5, vi p.1), (1, vi p.2)]) (fun p => [(0, .hold [.ow () 3 l.length (rD (mkL (l.take p.1) k) ++ rD (l.drop p.1))])]) [(0, _)] [] [(0, .sl 0 [0] 0 l.length)] (0, k) (⟨Nat.zero_le _, by simp⟩) (by simp; exact rfl) (by simp) (by simp) (by rfl) ?_
  rintro ⟨i, K⟩ ⟨hi, hK⟩
  simp only at hi hK ⊢
  refine DW.seq ?_
  refine DW.seq ?_
  refine DW.reg (by simp; rfl) ?_
  refine DW.condB (by simp; exact rfl) (fun hc0 => ?_) (fun hc0 => ?_)
  · have hlt : i < l.length := by simpa using hc0
    have hd := rD_dropc l i hlt
    have hs := szL_at l i hlt
    have hct := ctL_take l i hlt
    have hca := ctL_at l i hlt
    have hm := mkL_take l i k hlt
    replace hm := congrArg rD hm
    rw [rD_append, ← hK] at hm
    have hlt' : (i : Int) < l.length := by omega
    have w1 : IntKind.i64.wrap ((i : Int) + 1) = ((i + 1 : Nat) : Int) := (wr _ (by omega) (by omega)).trans (by omega)
    have hA : (rD (mkL (l.take i) k)).length = i * 3 := by rw [rD_len_Rec, mkL_len, List.length_take, Nat.min_eq_left (by omega)]
    generalize l[i] = c at hd hs hct hca hm
    have hcc := Rec_ct c
    have hcs := Rec_sz c
    rw [Rec_mk] at hm
    replace hm : rD (mkL (l.take (i + 1)) k) = rD (mkL (l.take i) k) ++ Rec.d _ := hm.trans (by simp only [rD, List.flatMap_cons, List.flatMap_nil, List.append_nil]; rfl)
    replace hd : rD (l.drop i) = Rec.d c ++ rD (l.drop (i + 1)) := hd
    have t0 : 0 < K ∧ K < 4611686018427387904 := ⟨by omega, by omega⟩
    have t1 : 0 < K + 1 ∧ K + 1 < 4611686018427387904 := ⟨by omega, by omega⟩
    have t2 : 0 < K + 2 ∧ K + 2 < 4611686018427387904 := ⟨by omega, by omega⟩
    obtain ⟨v1, v2, v3⟩ : IntKind.i64.wrap (K + 1) = K + 1 ∧ IntKind.i64.wrap (K + 1 + 1) = K + 2 ∧ IntKind.i64.wrap (K + 2 + 1) = K + 3 := ⟨(wr _ (by omega) (by omega)).trans (by omega), (wr _ (by omega) (by omega)).trans (by omega), (wr _ (by omega) (by omega)).trans (by omega)⟩
    refine DW.skip ?_
    refine DW.seq ?_
    refine DW.block ?_
    refine DW.seq ?_
    refine DW.reg (by simp [hd, hlt', app_get hA, app_get0 hA, app_set hA, app_set0 hA, Nat.add_assoc]; rfl) ?_
    refine DW.seq ?_
    refine DW.reg (by simp [v1]; rfl) ?_
    refine DW.seq ?_
    refine DW.reg (by simp [hd, hlt', app_get hA, app_get0 hA, app_set hA, app_set0 hA, Nat.add_assoc]; rfl) ?_
    refine DW.seq ?_
    refine DW.reg (by simp [v2]; rfl) ?_
    refine DW.seq ?_
    refine DW.regs ?_
    refine RegO.opN 3 (by simp [hd, hlt', app_get hA, app_get0 hA, app_set hA, app_set0 hA, Nat.add_assoc]; rfl) ?_
    refine RegO.step rfl (OpStep.callA rfl (by simp [hd, hlt', app_get hA, app_get0 hA, app_set hA, app_set0 hA, Nat.add_assoc]; exact ⟨rfl, rfl⟩) (by simp [hd, hlt', app_get hA, app_get0 hA, app_set hA, app_set0 hA, Nat.add_assoc]; rfl) (by exact markText_spec _ t2.1 t2.2) (by simp) (by simp [hd, hlt', app_get hA, app_get0 hA, app_set hA, app_set0 hA, Nat.add_assoc]; rfl)) ?_
    refine RegO.opN 3 (by simp [hd, hlt', app_get hA, app_get0 hA, app_set hA, app_set0 hA, Nat.add_assoc]; rfl) ?_
    refine RegO.nil ?_
    refine DW.reg (by simp [v3]; rfl) ?_
    refine DW.reg (by simp [w1]; rfl) ?_
    clear v1 v2 v3
    exact ⟨(i + 1, K + 3), ⟨hlt, by simp only; omega⟩, by simp only; omega, by simp, by simp [hm, mb], by simp, by rfl⟩
  · have hil : i = l.length := by
      have : ¬ i < l.length := by simpa using hc0
      omega
    subst hil
    rw [List.take_length] at hK
    refine DW.exit ?_
    refine DW.seq ?_
    refine DW.reg (by simp; rfl) ?_
    refine DW.ret ?_
    simp [Tryz.results129, hK]
theorem markRecS_spec0 (k : Int) : Spec Tryz.prog 129 [.one (.r (.sl 0 [])), ri k] [none] [di k] [.one (.r (.sl 0 [])), ri k] := by
  refine Spec.intro Tryz.func129 rfl rfl Tryz.ntmps129 rfl (by simp) ?_
  refine DW.seq ?_
  refine DW.reg (by simp; rfl) ?_
  refine DW.seq ?_
  refine DW.seq ?_
  refine DW.reg (by simp; rfl) ?_
  refine DW.block ?_
  refine DW.loopS (α := Nat) (fun p => True) (fun p => p) (fun p => [(5, vi 0), (1, vi k)]) (fun p => []) [(0, _)] [] [] 0 (trivial) (by simp; exact rfl) (by simp) (by simp) (by rfl) ?_
  rintro p -
  refine DW.seq ?_
  refine DW.seq ?_
  refine DW.reg (by simp; rfl) ?_
  refine DW.condF (by simp) ?_
  refine DW.exit ?_
  refine DW.seq ?_
  refine DW.reg (by simp; rfl) ?_
  refine DW.ret ?_
  simp [Tryz.results129]
theorem markEntryS_spec (l : List Entry) (k : Int) (h0 : 0 < k) (h1 : k + (ctL l : Int) ≤ 1152921504606846976) (h : szL l ≤ 2 ^ 36) : Spec Tryz.prog 130 [.one (.m 2 l.length (rD l)), ri k] [none] [di (k + (ctL l : Int))] [.one (.m 2 l.length (rD (mkL l k))), ri k] := by
  refine Spec.intro Tryz.func130 rfl rfl Tryz.ntmps130 rfl (by simp) ?_
  have hll := szL_len l
  refine DW.seq ?_
  refine DW.reg (by simp; rfl) ?_
  refine DW.seq ?_
  refine DW.seq ?_
  refine DW.reg (by simp; rfl) ?_
  refine DW.block ?_
  refine DW.loopS (α := Nat × Int) (fun p => p.1 ≤ l.length ∧ p.2 = k + (ctL (l.take p.1) : Int)) (fun p => l.length - p.1) (fun p => [(5, vi p.1), (1, vi p.2)]) (fun p => [(0, .hold [.ow () 2 l.length (rD (mkL (l.take p.1) k) ++ rD (l.drop p.1))])]) [(0, _)] [] [(0, .sl 0 [0] 0 l.length)] (0, k) (⟨Nat.zero_le _, by simp⟩) (by simp; exact rfl) (by simp) (by simp) (by rfl) ?_
  rintro ⟨i, K⟩ ⟨hi, hK⟩
  simp only at hi hK ⊢
  refine DW.seq ?_
  refine DW.seq ?_
  refine DW.reg (by simp; rfl) ?_
  refine DW.condB (by simp; exact rfl) (fun hc0 => ?_) (fun hc0 => ?_)
  · have hlt : i < l.length := by simpa using hc0
    have hd := rD_dropc l i hlt
    have hs := szL_at l i hlt
    have hct := ctL_take l i hlt
    have hca := ctL_at l i hlt
    have hm := mkL_take l i k hlt
    replace hm := congrArg rD hm
    rw [rD_append, ← hK] at hm
    have hlt' : (i : Int) < l.length := by omega
    have w1 : IntKind.i64.wrap ((i : Int) + 1) = ((i + 1 : Nat) : Int) := (wr _ (by omega) (by omega)).trans (by omega)
    have hA : (rD (mkL (l.take i) k)).length = i * 2 := by rw [rD_len_Entry, mkL_len, List.length_take, Nat.min_eq_left (by omega)]
    generalize l[i] = c at hd hs hct hca hm
    have hcc := Entry_ct c
    have hcs := Entry_sz c
    rw [Entry_mk] at hm
    replace hm : rD (mkL (l.take (i + 1)) k) = rD (mkL (l.take i) k) ++ Entry.d _ := hm.trans (by simp only [rD, List.flatMap_cons, List.flatMap_nil, List.append_nil]; rfl)
    replace hd : rD (l.drop i) = Entry.d c ++ rD (l.drop (i + 1)) := hd
    have t0 : 0 < K ∧ K < 4611686018427387904 := ⟨by omega, by omega⟩
    have t1 : 0 < K + 1 ∧ K + 1 < 4611686018427387904 := ⟨by omega, by omega⟩
    obtain ⟨v1, v2⟩ : IntKind.i64.wrap (K + 1) = K + 1 ∧ IntKind.i64.wrap (K + 1 + 1) = K + 2 := ⟨(wr _ (by omega) (by omega)).trans (by omega), (wr _ (by omega) (by omega)).trans (by omega)⟩
    refine DW.skip ?_
    refine DW.seq ?_
    refine DW.block ?_
    refine DW.seq ?_
    refine DW.reg (by simp [hd, hlt', app_get hA, app_get0 hA, app_set hA, app_set0 hA, Nat.add_assoc]; rfl) ?_
    refine DW.seq ?_
    refine DW.reg (by simp [v1]; rfl) ?_
    refine DW.seq ?_
    refine DW.regs ?_
    refine RegO.opN 3 (by simp [hd, hlt', app_get hA, app_get0 hA, app_set hA, app_set0 hA, Nat.add_assoc]; rfl) ?_
    refine RegO.step rfl (OpStep.callA rfl (by simp [hd, hlt', app_get hA, app_get0 hA, app_set hA, app_set0 hA, Nat.add_assoc]; exact ⟨rfl, rfl⟩) (by simp [hd, hlt', app_get hA, app_get0 hA, app_set hA, app_set0 hA, Nat.add_assoc]; rfl) (by exact markText_spec _ t1.1 t1.2) (by simp) (by simp [hd, hlt', app_get hA, app_get0 hA, app_set hA, app_set0 hA, Nat.add_assoc]; rfl)) ?_
    refine RegO.opN 3 (by simp [hd, hlt', app_get hA, app_get0 hA, app_set hA, app_set0 hA, Nat.add_assoc]; rfl) ?_
    refine RegO.nil ?_
    refine DW.reg (by simp [v2]; rfl) ?_
    refine DW.reg (by simp [w1]; rfl) ?_
    clear v1 v2
    exact ⟨(i + 1, K + 2), ⟨hlt, by simp only; omega⟩, by simp only; omega, by simp, by simp [hm, mb], by simp, by rfl⟩
  · have hil : i = l.length := by
      have : ¬ i < l.length := by simpa using hc0
      omega
    subst hil
    rw [List.take_length] at hK
    refine DW.exit ?_
    refine DW.seq ?_
    refine DW.reg (by simp; rfl) ?_
    refine DW.ret ?_
    simp [Tryz.results130, hK]
theorem markEntryS_spec0 (k : Int) : Spec Tryz.prog 130 [.one (.r (.sl 0 [])), ri k] [none] [di k] [.one (.r (.sl 0 [])), ri k] := by
  refine Spec.intro Tryz.func130 rfl rfl Tryz.ntmps130 rfl (by simp) ?_
  refine DW.seq ?_
  refine DW.reg (by simp; rfl) ?_
  refine DW.seq ?_
  refine DW.seq ?_
  refine DW.reg (by simp; rfl) ?_
  refine DW.block ?_
  refine DW.loopS (α := Nat) (fun p => True) (fun p => p) (fun p => [(5, vi 0), (1, vi k)]) (fun p => []) [(0, _)] [] [] 0 (trivial) (by simp; exact rfl) (by simp) (by simp) (by rfl) ?_
  rintro p -
  refine DW.seq ?_
  refine DW.seq ?_
  refine DW.reg (by simp; rfl) ?_
  refine DW.condF (by simp) ?_
  refine DW.exit ?_
  refine DW.seq ?_
  refine DW.reg (by simp; rfl) ?_
  refine DW.ret ?_
  simp [Tryz.results130]
theorem markInodeS_spec (l : List Inode) (k : Int) (h0 : 0 < k) (h1 : k + (ctL l : Int) ≤ 1152921504606846976) (h : szL l ≤ 2 ^ 36) : Spec Tryz.prog 70 [.one (.m 6 l.length (rD l)), ri k] [none] [di (k + (ctL l : Int))] [.one (.m 6 l.length (rD (mkL l k))), ri k] := by
  refine Spec.intro Tryz.func70 rfl rfl Tryz.ntmps70 rfl (by simp) ?_
  have hll := szL_len l
  refine DW.seq ?_
  refine DW.reg (by simp; rfl) ?_
  refine DW.seq ?_
  refine DW.seq ?_
  refine DW.reg (by simp; rfl) ?_
  refine DW.block ?_
  refine DW.loopS (α := Nat × Int) (fun p => p.1 ≤ l.length ∧ p.2 = k + (ctL (l.take p.1) : Int)) (fun p => l.length - p.1) (fun p => [(5, vi p.1), (1, vi p.2)]) (fun p => [(0, .hold [.ow () 6 l.length (rD (mkL (l.take p.1) k) ++ rD (l.drop p.1))])]) [(0, _)] [] [(0, .sl 0 [0] 0 l.length)] (0, k) (⟨Nat.zero_le _, by simp⟩) (by simp; exact rfl) (by simp) (by simp) (by rfl) ?_
  rintro ⟨i, K⟩ ⟨hi, hK⟩
  simp only at hi hK ⊢
  refine DW.seq ?_
  refine DW.seq ?_
  refine DW.reg (by simp; rfl) ?_
  refine DW.condB (by simp; exact rfl) (fun hc0 => ?_) (fun hc0 => ?_)
  · have hlt : i < l.length := by simpa using hc0
    have hd := rD_dropc l i hlt
    have hs := szL_at l i hlt
    have hct := ctL_take l i hlt
    have hca := ctL_at l i hlt
    have hm := mkL_take l i k hlt
    replace hm := congrArg rD hm
    rw [rD_append, ← hK] at hm
    have hlt' : (i : Int) < l.length := by omega
    have w1 : IntKind.i64.wrap ((i : Int) + 1) = ((i + 1 : Nat) : Int) := (wr _ (by omega) (by omega)).trans (by omega)
    have hA : (rD (mkL (l.take i) k)).length = i * 6 := by rw [rD_len_Inode, mkL_len, List.length_take, Nat.min_eq_left (by omega)]
    generalize l[i] = c at hd hs hct hca hm
    have hcc := Inode_ct c
    have hcs := Inode_sz c
    rw [Inode_mk] at hm
    replace hm : rD (mkL (l.take (i + 1)) k) = rD (mkL (l.take i) k) ++ Inode.d _ := hm.trans (by simp only [rD, List.flatMap_cons, List.flatMap_nil, List.append_nil]; rfl)
    replace hd : rD (l.drop i) = Inode.d c ++ rD (l.drop (i + 1)) := hd
    have t0 : 0 < K ∧ K < 4611686018427387904 := ⟨by omega, by omega⟩
    have t1 : 0 < K + 1 ∧ K + 1 < 4611686018427387904 := ⟨by omega, by omega⟩
    have t2 : 0 < K + 2 ∧ K + 2 < 4611686018427387904 := ⟨by omega, by omega⟩
    have t3 : 0 < K + 3 ∧ K + 3 < 4611686018427387904 := ⟨by omega, by omega⟩
    have u1 : 0 < K + 4 ∧ K + 4 + (ctL c.Recs : Int) ≤ 1152921504606846976 ∧ szL c.Recs ≤ 2 ^ 36 ∧ ¬ (K + 4 + (ctL c.Recs : Int) < 0) := ⟨by omega, by omega, by omega, by omega⟩
    have u2 : 0 < K + 4 + (ctL c.Recs : Int) ∧ K + 4 + (ctL c.Recs : Int) + (ctL c.Entries : Int) ≤ 1152921504606846976 ∧ szL c.Entries ≤ 2 ^ 36 ∧ ¬ (K + 4 + (ctL c.Recs : Int) + (ctL c.Entries : Int) < 0) := ⟨by omega, by omega, by omega, by omega⟩
    obtain ⟨v1, v2, v3, v4⟩ : IntKind.i64.wrap (K + 1) = K + 1 ∧ IntKind.i64.wrap (K + 1 + 1) = K + 2 ∧ IntKind.i64.wrap (K + 2 + 1) = K + 3 ∧ IntKind.i64.wrap (K + 3 + 1) = K + 4 := ⟨(wr _ (by omega) (by omega)).trans (by omega), (wr _ (by omega) (by omega)).trans (by omega), (wr _ (by omega) (by omega)).trans (by omega), (wr _ (by omega) (by omega)).trans (by omega)⟩
    refine DW.skip ?_
    refine DW.seq ?_
    refine DW.block ?_
    refine DW.seq ?_
    refine DW.reg (by simp [hd, hlt', app_get hA, app_get0 hA, app_set hA, app_set0 hA, Nat.add_assoc]; rfl) ?_
    refine DW.seq ?_
    refine DW.reg (by simp [v1]; rfl) ?_
    refine DW.seq ?_
    refine DW.reg (by simp [hd, hlt', app_get hA, app_get0 hA, app_set hA, app_set0 hA, Nat.add_assoc]; rfl) ?_
    refine DW.seq ?_
    refine DW.reg (by simp [v2]; rfl) ?_
    refine DW.seq ?_
    refine DW.reg (by simp [hd, hlt', app_get hA, app_get0 hA, app_set hA, app_set0 hA, Nat.add_assoc]; rfl) ?_
    refine DW.seq ?_
    refine DW.reg (by simp [v3]; rfl) ?_
    refine DW.seq ?_
    refine DW.regs ?_
    refine RegO.opN 3 (by simp [hd, hlt', app_get hA, app_get0 hA, app_set hA, app_set0 hA, Nat.add_assoc]; rfl) ?_
    refine RegO.step rfl (OpStep.callA rfl (by simp [hd, hlt', app_get hA, app_get0 hA, app_set hA, app_set0 hA, Nat.add_assoc]; exact ⟨rfl, rfl⟩) (by simp [hd, hlt', app_get hA, app_get0 hA, app_set hA, app_set0 hA, Nat.add_assoc]; rfl) (by exact markText_spec _ t3.1 t3.2) (by simp) (by simp [hd, hlt', app_get hA, app_get0 hA, app_set hA, app_set0 hA, Nat.add_assoc]; rfl)) ?_
    refine RegO.opN 3 (by simp [hd, hlt', app_get hA, app_get0 hA, app_set hA, app_set0 hA, Nat.add_assoc]; rfl) ?_
    refine RegO.nil ?_
    refine DW.seq ?_
    refine DW.reg (by simp [v4]; rfl) ?_
    refine DW.seq ?_
    refine DW.regs ?_
    refine RegO.opN 6 (by simp [hd, hlt', app_get hA, app_get0 hA, app_set hA, app_set0 hA, Nat.add_assoc]; rfl) ?_
    refine RegO.step rfl (OpStep.callL (io := 0) rfl (by simp [hd, hlt', app_get hA, app_get0 hA, app_set hA, app_set0 hA, Nat.add_assoc]; rfl) (markRecS_spec c.Recs (K + 4) u1.1 u1.2.1 u1.2.2.1) (by rfl) (by rfl) (by rfl) (by rfl) (by simp [lendL, FS.lend, hd, hlt', app_get hA, app_get0 hA, app_set hA, app_set0 hA, Nat.add_assoc]; exact ⟨rfl, rfl⟩) (by simp [apartP]) (by simp) (by simp [hd, hlt', app_get hA, app_get0 hA, app_set hA, app_set0 hA, Nat.add_assoc]; rfl) (by simp [rosOk]) (by simp) (by simp [backFS, hBack, pzsC, pzS, paCells, PC.tree, hd, hlt', app_get hA, app_get0 hA, app_set hA, app_set0 hA, Nat.add_assoc]; rfl)) ?_
    refine RegO.opN 1 (by simp [hd, hlt', app_get hA, app_get0 hA, app_set hA, app_set0 hA, Nat.add_assoc]; rfl) ?_
    refine RegO.nil ?_
    refine DW.regs ?_
    refine RegO.opN 6 (by simp [hd, hlt', app_get hA, app_get0 hA, app_set hA, app_set0 hA, Nat.add_assoc]; rfl) ?_
    refine RegO.step rfl (OpStep.callL (io := 0) rfl (by simp [hd, hlt', app_get hA, app_get0 hA, app_set hA, app_set0 hA, Nat.add_assoc]; rfl) (markEntryS_spec c.Entries (K + 4 + (ctL c.Recs : Int)) u2.1 u2.2.1 u2.2.2.1) (by rfl) (by rfl) (by rfl) (by rfl) (by simp [lendL, FS.lend, hd, hlt', app_get hA, app_get0 hA, app_set hA, app_set0 hA, Nat.add_assoc]; exact ⟨rfl, rfl⟩) (by simp [apartP]) (by simp) (by simp [hd, hlt', app_get hA, app_get0 hA, app_set hA, app_set0 hA, Nat.add_assoc]; rfl) (by simp [rosOk]) (by simp) (by simp [backFS, hBack, pzsC, pzS, paCells, PC.tree, hd, hlt', app_get hA, app_get0 hA, app_set hA, app_set0 hA, Nat.add_assoc]; rfl)) ?_
    refine RegO.opN 1 (by simp [hd, hlt', app_get hA, app_get0 hA, app_set hA, app_set0 hA, Nat.add_assoc]; rfl) ?_
    refine RegO.nil ?_
    refine DW.reg (by simp [w1]; rfl) ?_
    clear v1 v2 v3 v4
    exact ⟨(i + 1, K + 4 + (ctL c.Recs : Int) + (ctL c.Entries : Int)), ⟨hlt, by simp only; omega⟩, by simp only; omega, by simp, by simp [hm, mb], by simp, by rfl⟩
  · have hil : i = l.length := by
      have : ¬ i < l.length := by simpa using hc0
      omega
    subst hil
    rw [List.take_length] at hK
    refine DW.exit ?_
    refine DW.seq ?_
    refine DW.reg (by simp; rfl) ?_
    refine DW.ret ?_
    simp [Tryz.results70, hK]
theorem markInodeS_spec0 (k : Int) : Spec Tryz.prog 70 [.one (.r (.sl 0 [])), ri k] [none] [di k] [.one (.r (.sl 0 [])), ri k] := by
  refine Spec.intro Tryz.func70 rfl rfl Tryz.ntmps70 rfl (by simp) ?_
  refine DW.seq ?_
  refine DW.reg (by simp; rfl) ?_
  refine DW.seq ?_
  refine DW.seq ?_
  refine DW.reg (by simp; rfl) ?_
  refine DW.block ?_
  refine DW.loopS (α := Nat) (fun p => True) (fun p => p) (fun p => [(5, vi 0), (1, vi k)]) (fun p => []) [(0, _)] [] [] 0 (trivial) (by simp; exact rfl) (by simp) (by simp) (by rfl) ?_
  rintro p -
  refine DW.seq ?_
  refine DW.seq ?_
  refine DW.reg (by simp; rfl) ?_
  refine DW.condF (by simp) ?_
  refine DW.exit ?_
  refine DW.seq ?_
  refine DW.reg (by simp; rfl) ?_
  refine DW.ret ?_
  simp [Tryz.results70]
theorem markPart_spec (a : Part) (k : Int) (h0 : 0 < k) (h1 : k + (Part.ctT a : Int) ≤ 1152921504606846976) (h : Row.sz a ≤ 2 ^ 36) : Spec Tryz.prog 16 [maPart a, ri k] [none] [di (k + (Part.ctT a : Int))] [maPart (Part.mkT a k), ri k] := by
  refine Spec.intro Tryz.func16 rfl rfl Tryz.ntmps16 rfl (by simp) ?_
  have hz := Part_sz a
  have hT : Part.ctT a = ctL a.States + ctL a.Inodes := by simp only [Part.mkT, Part.ctT]
  have u0 : 0 < k ∧ k + (ctL a.States : Int) ≤ 1152921504606846976 ∧ szL a.States ≤ 2 ^ 36 := ⟨by omega, by omega, by omega⟩
  have u1 : 0 < k + (ctL a.States : Int) ∧ k + (ctL a.States : Int) + (ctL a.Inodes : Int) ≤ 1152921504606846976 ∧ szL a.Inodes ≤ 2 ^ 36 := ⟨by omega, by omega, by omega⟩
  have hTT : k + (Part.ctT a : Int) = k + (ctL a.States : Int) + (ctL a.Inodes : Int) := by omega
  obtain ⟨a_Serial, a_States, a_Inodes⟩ := a
  simp only at *
  rcases nil_or_pos' a_States with ⟨m0, n0, e0, p0, rfl⟩ | ⟨m0, n0, e0, p0, -⟩ <;> rcases nil_or_pos' a_Inodes with ⟨m1, n1, e1, p1, rfl⟩ | ⟨m1, n1, e1, p1, -⟩
  all_goals
    refine DW.ghost (Ghost.empty 0) ?_
    refine DW.seq ?_
    refine DW.regs ?_
    refine RegO.step rfl (OpStep.boxR rfl rfl (by decide) (by simp [m0, n0, e0, p0, m1, n1, e1, p1]; rfl) (by simp [m0, n0, e0, p0, m1, n1, e1, p1]; first | exact ⟨rfl, rfl⟩ | rfl) (by simp) (by simp)) ?_
    refine RegO.opN 1 (by simp; rfl) ?_
    refine RegO.nil ?_
    first
      | refine DW.norm [(1, _), (2, _)] [(0, _), (2, _)] [(1, _), (2, _)] (by simp [m0, n0, e0, p0, m1, n1, e1, p1]; exact ⟨rfl, rfl⟩) (by simp [m0, n0, e0, p0, m1, n1, e1, p1]; exact ⟨rfl, rfl⟩) (by simp [m0, n0, e0, p0, m1, n1, e1, p1]; exact ⟨rfl, rfl⟩) (by rfl) ?_
      | refine DW.norm [(1, _), (2, _)] [(2, _)] [] (by simp [m0, n0, e0, p0, m1, n1, e1, p1]; exact ⟨rfl, rfl⟩) (by simp [m0, n0, e0, p0, m1, n1, e1, p1]; rfl) (by simp [m0, n0, e0, p0, m1, n1, e1, p1]) (by rfl) ?_
    refine DW.seq ?_
    refine DW.regs ?_
    refine RegO.opN 3 (by simp [m0, n0, e0, p0, m1, n1, e1, p1]; rfl) ?_
    first
      | (refine RegO.step rfl (OpStep.callL (io := 0) rfl (by simp [m0, n0, e0, p0, m1, n1, e1, p1]; rfl) (markIntS_spec _ _ u0.1 u0.2.1 u0.2.2) (by rfl) (by rfl) (by rfl) (by rfl) (by simp [lendL, FS.lend, m0, n0, e0, p0, m1, n1, e1, p1]; exact ⟨rfl, rfl⟩) (by simp [apartP]) (by simp) (by simp [m0, n0, e0, p0, m1, n1, e1, p1]; rfl) (by simp [rosOk]) (by simp) (by simp [backFS, hBack, pzsC, pzS, paCells, PC.tree, m0, n0, e0, p0, m1, n1, e1, p1]; rfl)) ?_)
      | refine RegO.step rfl (OpStep.callA rfl (by simp [m0, n0, e0, p0, m1, n1, e1, p1]; exact ⟨rfl, rfl⟩) (by simp [m0, n0, e0, p0, m1, n1, e1, p1]; rfl) (by exact markIntS_spec0 _) (by simp) (by simp [m0, n0, e0, p0, m1, n1, e1, p1]; rfl)) ?_
    refine RegO.opN 1 (by simp [m0, n0, e0, p0, m1, n1, e1, p1]; rfl) ?_
    refine RegO.nil ?_
    first
      | refine DW.norm [(1, _), (2, _)] [(0, _), (2, _)] [(1, _), (2, _)] (by simp [m0, n0, e0, p0, m1, n1, e1, p1]; exact ⟨rfl, rfl⟩) (by simp [m0, n0, e0, p0, m1, n1, e1, p1]; exact ⟨rfl, rfl⟩) (by simp [m0, n0, e0, p0, m1, n1, e1, p1]; exact ⟨rfl, rfl⟩) (by rfl) ?_
      | refine DW.norm [(1, _), (2, _)] [(2, _)] [] (by simp [m0, n0, e0, p0, m1, n1, e1, p1]; exact ⟨rfl, rfl⟩) (by simp [m0, n0, e0, p0, m1, n1, e1, p1]; rfl) (by simp [m0, n0, e0, p0, m1, n1, e1, p1]) (by rfl) ?_
    refine DW.seq ?_
    refine DW.regs ?_
    refine RegO.opN 3 (by simp [m0, n0, e0, p0, m1, n1, e1, p1]; rfl) ?_
    first
      | (refine RegO.step rfl (OpStep.callL (io := 0) rfl (by simp [m0, n0, e0, p0, m1, n1, e1, p1]; rfl) (markInodeS_spec _ _ u1.1 u1.2.1 u1.2.2) (by rfl) (by rfl) (by rfl) (by rfl) (by simp [lendL, FS.lend, m0, n0, e0, p0, m1, n1, e1, p1]; exact ⟨rfl, rfl⟩) (by simp [apartP]) (by simp) (by simp [m0, n0, e0, p0, m1, n1, e1, p1]; rfl) (by simp [rosOk]) (by simp) (by simp [backFS, hBack, pzsC, pzS, paCells, PC.tree, m0, n0, e0, p0, m1, n1, e1, p1]; rfl)) ?_)
      | refine RegO.step rfl (OpStep.callA rfl (by simp [m0, n0, e0, p0, m1, n1, e1, p1]; exact ⟨rfl, rfl⟩) (by simp [m0, n0, e0, p0, m1, n1, e1, p1]; rfl) (by exact markInodeS_spec0 _) (by simp) (by simp [m0, n0, e0, p0, m1, n1, e1, p1]; rfl)) ?_
    refine RegO.opN 1 (by simp [m0, n0, e0, p0, m1, n1, e1, p1]; rfl) ?_
    refine RegO.nil ?_
    first
      | refine DW.norm [(1, _), (2, _)] [(0, _), (2, _)] [(1, _), (2, _)] (by simp [m0, n0, e0, p0, m1, n1, e1, p1]; exact ⟨rfl, rfl⟩) (by simp [m0, n0, e0, p0, m1, n1, e1, p1]; exact ⟨rfl, rfl⟩) (by simp [m0, n0, e0, p0, m1, n1, e1, p1]; exact ⟨rfl, rfl⟩) (by rfl) ?_
      | refine DW.norm [(1, _), (2, _)] [(2, _)] [] (by simp [m0, n0, e0, p0, m1, n1, e1, p1]; exact ⟨rfl, rfl⟩) (by simp [m0, n0, e0, p0, m1, n1, e1, p1]; rfl) (by simp [m0, n0, e0, p0, m1, n1, e1, p1]) (by rfl) ?_
    refine DW.seq ?_
    refine DW.reg (by simp [m0, n0, e0, p0, m1, n1, e1, p1]; rfl) ?_
    try (refine DW.ghost ((Ghost.move (id := 2) (id' := 1001) (p := [1]) (by simp; rfl) (by simp [m0, n0, e0, p0, m1, n1, e1, p1]; first | exact ⟨rfl, rfl, rfl⟩ | rfl) (by simp)).trans (Ghost.plant 1001 0 1 (by simp [m0, n0, e0, p0, m1, n1, e1, p1]; first | exact ⟨rfl, rfl, rfl⟩ | rfl) (by simp; rfl) (by simp))) ?_)
    try (refine DW.ghost ((Ghost.move (id := 2) (id' := 1002) (p := [2]) (by simp; rfl) (by simp [m0, n0, e0, p0, m1, n1, e1, p1]; first | exact ⟨rfl, rfl, rfl⟩ | rfl) (by simp)).trans (Ghost.plant 1002 0 2 (by simp [m0, n0, e0, p0, m1, n1, e1, p1]; first | exact ⟨rfl, rfl, rfl⟩ | rfl) (by simp; rfl) (by simp))) ?_)
    refine DW.ret ?_
    simp [Tryz.results16, hTT, Part.mkT, m0, n0, e0, p0, m1, n1, e1, p1]
theorem markStepS_spec (l : List Step) (k : Int) (h0 : 0 < k) (h1 : k + (ctL l : Int) ≤ 1152921504606846976) (h : szL l ≤ 2 ^ 36) : Spec Tryz.prog 17 [.one (.m 3 l.length (rD l)), ri k] [none] [di (k + (ctL l : Int))] [.one (.m 3 l.length (rD (mkL l k))), ri k] := by
  refine Spec.intro Tryz.func17 rfl rfl Tryz.ntmps17 rfl (by simp) ?_
  have hll := szL_len l
  refine DW.seq ?_
  refine DW.reg (by simp; rfl) ?_
  refine DW.seq ?_
  refine DW.seq ?_
  refine DW.reg (by simp; rfl) ?_
  refine DW.block ?_
  refine DW.loopS (α := Nat × Int) (fun p => p.1 ≤ l.length ∧ p.2 = k + (ctL (l.take p.1) : Int)) (fun p => l.length - p.1) (fun p => [(5, vi p.1), (1, vi p.2)]) (fun p => [(0, .hold [.ow () 3 l.length (rD (mkL (l.take p.1) k) ++ rD (l.drop p.1))])]) [(0, _)] [] [(0, .sl 0 [0] 0 l.length)] (0, k) (⟨Nat.zero_le _, by simp⟩) (by simp; exact rfl) (by simp) (by simp) (by rfl) ?_
  rintro ⟨i, K⟩ ⟨hi, hK⟩
  simp only at hi hK ⊢
  refine DW.seq ?_
  refine DW.seq ?_
  refine DW.reg (by simp; rfl) ?_
  refine DW.condB (by simp; exact rfl) (fun hc0 => ?_) (fun hc0 => ?_)
  · have hlt : i < l.length := by simpa using hc0
    have hd := rD_dropc l i hlt
    have hs := szL_at l i hlt
    have hct := ctL_take l i hlt
    have hca := ctL_at l i hlt
    have hm := mkL_take l i k hlt
    replace hm := congrArg rD hm
    rw [rD_append, ← hK] at hm
    have hlt' : (i : Int) < l.length := by omega
    have w1 : IntKind.i64.wrap ((i : Int) + 1) = ((i + 1 : Nat) : Int) := (wr _ (by omega) (by omega)).trans (by omega)
    have hA : (rD (mkL (l.take i) k)).length = i * 3 := by rw [rD_len_Step, mkL_len, List.length_take, Nat.min_eq_left (by omega)]
    generalize l[i] = c at hd hs hct hca hm
    have hcc := Step_ct c
    have hcs := Step_sz c
    rw [Step_mk] at hm
    replace hm : rD (mkL (l.take (i + 1)) k) = rD (mkL (l.take i) k) ++ Step.d _ := hm.trans (by simp only [rD, List.flatMap_cons, List.flatMap_nil, List.append_nil]; rfl)
    replace hd : rD (l.drop i) = Step.d c ++ rD (l.drop (i + 1)) := hd
    have t0 : 0 < K ∧ K < 4611686018427387904 := ⟨by omega, by omega⟩
    have t1 : 0 < K + 1 ∧ K + 1 < 4611686018427387904 := ⟨by omega, by omega⟩
    have t2 : 0 < K + 2 ∧ K + 2 < 4611686018427387904 := ⟨by omega, by omega⟩
    obtain ⟨v1, v2, v3⟩ : IntKind.i64.wrap (K + 1) = K + 1 ∧ IntKind.i64.wrap (K + 1 + 1) = K + 2 ∧ IntKind.i64.wrap (K + 2 + 1) = K + 3 := ⟨(wr _ (by omega) (by omega)).trans (by omega), (wr _ (by omega) (by omega)).trans (by omega), (wr _ (by omega) (by omega)).trans (by omega)⟩
    refine DW.skip ?_
    refine DW.seq ?_
    refine DW.block ?_
    refine DW.seq ?_
    refine DW.reg (by simp [hd, hlt', app_get hA, app_get0 hA, app_set hA, app_set0 hA, Nat.add_assoc]; rfl) ?_
    refine DW.seq ?_
    refine DW.reg (by simp [v1]; rfl) ?_
    refine DW.seq ?_
    refine DW.reg (by simp [hd, hlt', app_get hA, app_get0 hA, app_set hA, app_set0 hA, Nat.add_assoc]; rfl) ?_
    refine DW.seq ?_
    refine DW.reg (by simp [v2]; rfl) ?_
    refine DW.seq ?_
    refine DW.regs ?_
    refine RegO.opN 3 (by simp [hd, hlt', app_get hA, app_get0 hA, app_set hA, app_set0 hA, Nat.add_assoc]; rfl) ?_
    refine RegO.step rfl (OpStep.callA rfl (by simp [hd, hlt', app_get hA, app_get0 hA, app_set hA, app_set0 hA, Nat.add_assoc]; exact ⟨rfl, rfl⟩) (by simp [hd, hlt', app_get hA, app_get0 hA, app_set hA, app_set0 hA, Nat.add_assoc]; rfl) (by exact markText_spec _ t2.1 t2.2) (by simp) (by simp [hd, hlt', app_get hA, app_get0 hA, app_set hA, app_set0 hA, Nat.add_assoc]; rfl)) ?_
    refine RegO.opN 3 (by simp [hd, hlt', app_get hA, app_get0 hA, app_set hA, app_set0 hA, Nat.add_assoc]; rfl) ?_
    refine RegO.nil ?_
    refine DW.reg (by simp [v3]; rfl) ?_
    refine DW.reg (by simp [w1]; rfl) ?_
    clear v1 v2 v3
    exact ⟨(i + 1, K + 3), ⟨hlt, by simp only; omega⟩, by simp only; omega, by simp, by simp [hm, mb], by simp, by rfl⟩
  · have hil : i = l.length := by
      have : ¬ i < l.length := by simpa using hc0
      omega
    subst hil
    rw [List.take_length] at hK
    refine DW.exit ?_
    refine DW.seq ?_
    refine DW.reg (by simp; rfl) ?_
    refine DW.ret ?_
    simp [Tryz.results17, hK]
theorem markStepS_spec0 (k : Int) : Spec Tryz.prog 17 [.one (.r (.sl 0 [])), ri k] [none] [di k] [.one (.r (.sl 0 [])), ri k] := by
  refine Spec.intro Tryz.func17 rfl rfl Tryz.ntmps17 rfl (by simp) ?_
  refine DW.seq ?_
  refine DW.reg (by simp; rfl) ?_
  refine DW.seq ?_
  refine DW.seq ?_
  refine DW.reg (by simp; rfl) ?_
  refine DW.block ?_
  refine DW.loopS (α := Nat) (fun p => True) (fun p => p) (fun p => [(5, vi 0), (1, vi k)]) (fun p => []) [(0, _)] [] [] 0 (trivial) (by simp; exact rfl) (by simp) (by simp) (by rfl) ?_
  rintro p -
  refine DW.seq ?_
  refine DW.seq ?_
  refine DW.reg (by simp; rfl) ?_
  refine DW.condF (by simp) ?_
  refine DW.exit ?_
  refine DW.seq ?_
  refine DW.reg (by simp; rfl) ?_
  refine DW.ret ?_
  simp [Tryz.results17]
theorem heldStepS_spec (l : List Step) (k : Int) (h0 : 0 < k) (h1 : k + (ctL l : Int) ≤ 1152921504606846976) (h : szL l ≤ 2 ^ 36) : Spec Tryz.prog 18 [.one (.r (.sl l.length (rR (mkL l k)))), ri k] [none] [di (k + (ctL l : Int))] [.one (.r (.sl l.length (rR (mkL l k)))), ri k] := by
  refine Spec.intro Tryz.func18 rfl rfl Tryz.ntmps18 rfl (by simp) ?_
  have hll := szL_len l
  refine DW.seq ?_
  refine DW.reg (by simp; rfl) ?_
  refine DW.seq ?_
  refine DW.seq ?_
  refine DW.reg (by simp; rfl) ?_
  refine DW.block ?_
  refine DW.loopS (α := Nat × Int) (fun p => p.1 ≤ l.length ∧ p.2 = k + (ctL (l.take p.1) : Int)) (fun p => l.length - p.1) (fun p => [(5, vi p.1), (1, vi p.2)]) (fun p => []) [(0, _)] [] [] (0, k) (⟨Nat.zero_le _, by simp⟩) (by simp; exact rfl) (by simp) (by simp) (by rfl) ?_
  rintro ⟨i, K⟩ ⟨hi, hK⟩
  simp only at hi hK ⊢
  refine DW.seq ?_
  refine DW.seq ?_
  refine DW.reg (by simp; rfl) ?_
  refine DW.condB (by simp; exact rfl) (fun hc0 => ?_) (fun hc0 => ?_)
  · have hlt : i < l.length := by simpa using hc0
    have hd := rR_drop_Step (mkL l k) i (by simpa using hlt)
    rw [mkL_get l k i hlt, ← hK] at hd
    have hs := szL_at l i hlt
    have hct := ctL_take l i hlt
    have hca := ctL_at l i hlt
    have hlt' : (i : Int) < l.length := by omega
    have w1 : IntKind.i64.wrap ((i : Int) + 1) = ((i + 1 : Nat) : Int) := (wr _ (by omega) (by omega)).trans (by omega)
    generalize l[i] = c at hd hs hct hca
    have hcc := Step_ct c
    have hcs := Step_sz c
    rw [Step_mk] at hd
    have t0 : 0 < K ∧ K < 4611686018427387904 := ⟨by omega, by omega⟩
    have t1 : 0 < K + 1 ∧ K + 1 < 4611686018427387904 := ⟨by omega, by omega⟩
    have t2 : 0 < K + 2 ∧ K + 2 < 4611686018427387904 := ⟨by omega, by omega⟩
    obtain ⟨v1, v2, v3⟩ : IntKind.i64.wrap (K + 1) = K + 1 ∧ IntKind.i64.wrap (K + 1 + 1) = K + 2 ∧ IntKind.i64.wrap (K + 2 + 1) = K + 3 := ⟨(wr _ (by omega) (by omega)).trans (by omega), (wr _ (by omega) (by omega)).trans (by omega), (wr _ (by omega) (by omega)).trans (by omega)⟩
    refine DW.skip ?_
    refine DW.seq ?_
    refine DW.block ?_
    refine DW.seq ?_
    refine DW.seq ?_
    refine DW.reg (by simp [hd, hlt', mb]; rfl) ?_
    refine DW.condF (by simp) ?_
    refine DW.skip ?_
    refine DW.seq ?_
    refine DW.reg (by simp [v1]; rfl) ?_
    refine DW.seq ?_
    refine DW.seq ?_
    refine DW.reg (by simp [hd, hlt', mb]; rfl) ?_
    refine DW.condF (by simp) ?_
    refine DW.skip ?_
    refine DW.seq ?_
    refine DW.reg (by simp [v2]; rfl) ?_
    refine DW.seq ?_
    refine DW.seq ?_
    refine DW.drawn mixed (by kernel_rfl) ?_
    refine RegD.addN 6 (by simp [hd, hlt', mb]; (first | done | exact ⟨rfl, rfl⟩ | rfl)) ?_
    refine RegD.cert (Cert.callA rfl (by simp) rfl (by decide) (by simp [hd, hlt', mb]; exact ⟨rfl, rfl⟩) (by simp [hd, hlt', mb]; rfl) (by exact markText_spec _ t2.1 t2.2) rfl (by simp) (by simp; rfl) rfl) ?_
    refine RegD.addN 1 (by simp [hd, hlt', mb]; (first | done | exact ⟨rfl, rfl⟩ | rfl)) ?_
    refine RegD.nil ⟨by kernel_rfl, ?_⟩
    refine DW.condF (by simp) ?_
    refine DW.skip ?_
    refine DW.reg (by simp [v3]; rfl) ?_
    refine DW.reg (by simp [w1]; rfl) ?_
    clear v1 v2 v3
    exact ⟨(i + 1, K + 3), ⟨hlt, by simp only; omega⟩, by simp only; omega, by simp, by simp, by simp, by rfl⟩
  · have hil : i = l.length := by
      have : ¬ i < l.length := by simpa using hc0
      omega
    subst hil
    rw [List.take_length] at hK
    refine DW.exit ?_
    refine DW.seq ?_
    refine DW.reg (by simp; rfl) ?_
    refine DW.ret ?_
    simp [Tryz.results18, hK]
end Go.Proofs.YtjjdjkkhhcbogaaGreat.DM
