import Derived.Test.YtjjdjkkhhcbogaaGreatFData
namespace Go.Proofs.YtjjdjkkhhcbogaaGreat.DM
set_option linter.unusedVariables false
set_option linter.unusedSimpArgs false
set_option maxRecDepth 4000
set_option maxHeartbeats 8000000
theorem pos_mc {α : Type} [Row α] {l : List α} (h : 0 < l.length) : ∃ (_ : mc l = .m (Row.w α) l.length (rD l)) (_ : ∀ k, mc (mkL l k) = .m (Row.w α) l.length (rD (mkL l k))) (_ : ∀ id p off, emC (.sl id p off l.length) = .sl id p off l.length) (_ : 0 < l.length), True := by
  rcases nil_or_pos' l with ⟨-, -, -, -, rfl⟩ | h'
  · simp at h
  · exact h'
@[simp] theorem rD_take1_View (l : List View) : (rD l).take l.length = rD l := by have h := rD_take_View l; rwa [Nat.mul_one] at h
theorem markText_spec (k1 : Int) (h0 : 0 < k1) (h1 : k1 < 4611686018427387904) : Spec Tryz.prog 71 [ri k1] [none] [ds (mt k1)] [ri k1] := by
  refine Spec.intro Tryz.func71 rfl rfl Tryz.ntmps71 rfl (by simp) ?_
  obtain ⟨k0, rfl⟩ := Int.eq_ofNat_of_zero_le (show 0 ≤ k1 by omega)
  have h0n : ¬ (k0 : Int) ≤ 0 := by omega
  have h0m : ¬ k0 = 0 := by omega
  refine DW.seq ?_
  refine DW.reg (by simp; rfl) ?_
  refine DW.seq ?_
  refine DW.seq ?_
  refine DW.reg (by simp [h0n, h0m]; rfl) ?_
  refine DW.condF (by simp [h0n, h0m]) ?_
  refine DW.skip ?_
  refine DW.seq ?_
  refine DW.reg (by simp; rfl) ?_
  refine DW.seq ?_
  refine DW.block ?_
  refine DW.loopS (α := Nat × ByteArray) (fun p => p.1 ≤ k0 ∧ mtB p.1 p.2 = mtB k0 ByteArray.empty ∧ p.2.size + p.1 ≤ k0) (fun p => p.1) (fun p => [(0, vi p.1), (3, vs p.2)]) (fun p => []) [] [] [] (k0, ByteArray.empty) (⟨Nat.le_refl _, rfl, by simp⟩) (by simp) (by simp) (by simp) (by rfl) ?_
  rintro ⟨k, acc⟩ ⟨hk, hm, hs⟩
  simp only at hk hm hs ⊢
  refine DW.seq ?_
  refine DW.seq ?_
  refine DW.reg (by simp; rfl) ?_
  refine DW.condB (by simp; exact rfl) (fun hc1 => ?_) (fun hc1 => ?_)
  · have hp : 0 < k := by simpa using hc1
    have wd : IntKind.i64.wrap (48 + (k : Int).tmod 10) = ((48 + k % 10 : Nat) : Int) := by
      have e : (k : Int).tmod 10 = ((k % 10 : Nat) : Int) := by rw [Int.tmod_eq_emod_of_nonneg (by omega)]; omega
      rw [e, wr _ (by omega) (by omega)]; omega
    have hu : IntKind.u8.wrap (48 + (k : Int) % 10) = ((dg k).toNat : Int) := by
      have e1 : (dg k).toNat = 48 + k % 10 := by unfold dg; simp; omega
      rw [e1]; simp [IntKind.wrap, IntKind.bits, IntKind.signed]; omega
    have hz : (⟨#[dg k]⟩ ++ acc : ByteArray).size + k / 10 ≤ k0 := by rw [ByteArray.size_append]; show 1 + acc.size + k / 10 ≤ _; omega
    have hsz : ¬ ((9223372036854775807 : Int) < ((⟨#[dg k]⟩ : ByteArray).size : Int) + acc.size) := by show ¬ ((9223372036854775807 : Int) < ((1 : Nat) : Int) + acc.size); omega
    have hq : IntKind.i64.wrap ((k : Int) / 10) = (k : Int) / 10 := wr _ (by omega) (by omega)
    refine DW.skip ?_
    refine DW.block ?_
    refine DW.seq ?_
    refine DW.regs ?_
    refine RegO.opN 5 (by simp [wd]; rfl) ?_
    refine RegO.step rfl (OpStep.bytesStr (n := 1) (l := [dg k]) rfl rfl (by decide) (by simp; rfl) (by simp) (by simp) (by simp [rowLen]) (by simp [hu]; exact ⟨rfl, rfl⟩)) ?_
    refine RegO.opN 3 (by simp [hsz]; rfl) ?_
    refine RegO.nil ?_
    refine DW.reg (by simp [hq]; rfl) ?_
    exact ⟨(k / 10, ⟨#[dg k]⟩ ++ acc), ⟨by omega, by rw [← hm]; conv => rhs; rw [mtB, dif_pos hp], hz⟩, by simp; omega, by simp [hq], by simp, by simp, by rfl⟩
  · have hk0 : k = 0 := by
      have : ¬ 0 < k := by simpa using hc1
      omega
    subst hk0
    rw [mtB, dif_neg (by omega)] at hm
    have hsz : ¬ ((9223372036854775807 : Int) < ((⟨#[109]⟩ : ByteArray).size : Int) + acc.size) := by show ¬ ((9223372036854775807 : Int) < ((1 : Nat) : Int) + acc.size); omega
    refine DW.exit ?_
    refine DW.seq ?_
    refine DW.reg (by simp [hsz]; rfl) ?_
    refine DW.ret ?_
    simp [Tryz.results71, mt, ← hm]
theorem toGeo_spec (a : Geo) (h : Row.sz a ≤ 2 ^ 36) : Spec Tryz.prog 11 [raGeo a] [some 4] (Geo.d a) [raGeo a] := by
  refine Spec.intro Tryz.func11 rfl rfl Tryz.ntmps11 rfl (by simp) ?_
  have hz := Geo_sz a
  refine DW.seq ?_
  refine DW.reg (by simp; rfl) ?_
  refine DW.seq ?_
  refine DW.reg (by simp; rfl) ?_
  refine DW.seq ?_
  refine DW.reg (by simp; rfl) ?_
  refine DW.seq ?_
  refine DW.reg (by simp; rfl) ?_
  refine DW.seq ?_
  refine DW.reg (by simp; rfl) ?_
  refine DW.seq ?_
  refine DW.reg (by simp; rfl) ?_
  refine DW.seq ?_
  refine DW.reg (by simp; rfl) ?_
  refine DW.ret ?_
  simp [Tryz.results11]
theorem eqGeo_spec (a : Geo) (h : Row.sz a ≤ 2 ^ 36) : Spec Tryz.prog 87 [raGeo a, raGeo a] [none] [db true] [raGeo a, raGeo a] := by
  refine Spec.intro Tryz.func87 rfl rfl Tryz.ntmps87 rfl (by simp) ?_
  have hz := Geo_sz a
  refine DW.seq ?_
  refine DW.reg (by simp; rfl) ?_
  refine DW.seq ?_
  refine DW.seq ?_
  refine DW.reg (by simp; rfl) ?_
  refine DW.condF (by simp) ?_
  refine DW.skip ?_
  refine DW.seq ?_
  refine DW.seq ?_
  refine DW.reg (by simp; rfl) ?_
  refine DW.condF (by simp) ?_
  refine DW.skip ?_
  refine DW.seq ?_
  refine DW.seq ?_
  refine DW.reg (by simp; rfl) ?_
  refine DW.condF (by simp) ?_
  refine DW.skip ?_
  refine DW.seq ?_
  refine DW.seq ?_
  refine DW.reg (by simp; rfl) ?_
  refine DW.condF (by simp) ?_
  refine DW.skip ?_
  refine DW.seq ?_
  refine DW.reg (by simp; rfl) ?_
  refine DW.ret ?_
  simp [Tryz.results87]
theorem eqCell_spec (a : Cell) (h : Row.sz a ≤ 2 ^ 36) : Spec Tryz.prog 142 [raCell a, raCell a] [none] [db true] [raCell a, raCell a] := by
  refine Spec.intro Tryz.func142 rfl rfl Tryz.ntmps142 rfl (by simp) ?_
  have hz := Cell_sz a
  refine DW.seq ?_
  refine DW.reg (by simp; rfl) ?_
  refine DW.seq ?_
  refine DW.seq ?_
  refine DW.reg (by simp; rfl) ?_
  refine DW.condF (by simp) ?_
  refine DW.skip ?_
  refine DW.seq ?_
  refine DW.seq ?_
  refine DW.reg (by simp; rfl) ?_
  refine DW.condF (by simp) ?_
  refine DW.skip ?_
  refine DW.seq ?_
  refine DW.seq ?_
  refine DW.reg (by simp; rfl) ?_
  refine DW.condF (by simp) ?_
  refine DW.skip ?_
  refine DW.seq ?_
  refine DW.reg (by simp; rfl) ?_
  refine DW.ret ?_
  simp [Tryz.results142]
theorem eqCellS_spec (l : List Cell) (h : szL l ≤ 2 ^ 36) : Spec Tryz.prog 84 [ra l, ra l] [none] [db true] [ra l, ra l] := by
  refine Spec.intro Tryz.func84 rfl rfl Tryz.ntmps84 rfl (by simp) ?_
  have hll := szL_len l
  refine DW.seq ?_
  refine DW.reg (by simp; rfl) ?_
  refine DW.seq ?_
  refine DW.seq ?_
  refine DW.reg (by simp; rfl) ?_
  refine DW.condF (by simp) ?_
  refine DW.skip ?_
  refine DW.seq ?_
  refine DW.seq ?_
  refine DW.reg (by simp; rfl) ?_
  refine DW.block ?_
  refine DW.loopS (α := Nat) (fun i => i ≤ l.length) (fun i => l.length - i) (fun i => [(5, vi i)]) (fun i => []) [(0, _), (1, _)] [] [] 0 (by simp) (by simp; exact ⟨rfl, rfl⟩) (by simp) (by simp) (by rfl) ?_
  intro i hi
  refine DW.seq ?_
  refine DW.seq ?_
  refine DW.reg (by simp; rfl) ?_
  refine DW.condB (by simp; exact rfl) (fun hc1 => ?_) (fun hc1 => ?_)
  · have hlt : i < l.length := by simpa using hc1
    have hd := rR_drop_Cell l i hlt
    have hs := szL_at l i hlt
    have hlt' : (i : Int) < l.length := by omega
    have w1 : IntKind.i64.wrap ((i : Int) + 1) = ((i + 1 : Nat) : Int) := (wr _ (by omega) (by omega)).trans (by omega)
    generalize l[i] = c at hd hs
    refine DW.skip ?_
    refine DW.seq ?_
    refine DW.block ?_
    refine DW.seq ?_
    refine DW.drawn mixed (by kernel_rfl) ?_
    refine RegD.addN 8 (by simp [hd, hlt']; (first | done | exact ⟨rfl, rfl⟩ | rfl)) ?_
    refine RegD.cert (Cert.callA rfl (by simp) rfl (by decide) (by simp [hd, hlt']; exact ⟨rfl, rfl⟩) (by simp [hd, hlt']; rfl) (by exact eqCell_spec _ (by omega)) rfl (by simp) (by simp; rfl) rfl) ?_
    refine RegD.addN 1 (by simp [hd, hlt']; (first | done | exact ⟨rfl, rfl⟩ | rfl)) ?_
    refine RegD.nil ⟨by kernel_rfl, ?_⟩
    refine DW.condF (by simp) ?_
    refine DW.skip ?_
    refine DW.reg (by simp [w1]; rfl) ?_
    exact ⟨i + 1, hlt, by omega, by simp, by simp, by simp, by rfl⟩
  · refine DW.exit ?_
    refine DW.seq ?_
    refine DW.reg (by simp; rfl) ?_
    refine DW.ret ?_
    simp [Tryz.results84]
theorem eqMemory_spec (a : Memory) (h : Row.sz a ≤ 2 ^ 36) : Spec Tryz.prog 21 [raMemory a, raMemory a] [none] [db true] [raMemory a, raMemory a] := by
  refine Spec.intro Tryz.func21 rfl rfl Tryz.ntmps21 rfl (by simp) ?_
  have hz := Memory_sz a
  refine DW.seq ?_
  refine DW.reg (by simp; rfl) ?_
  refine DW.seq ?_
  refine DW.seq ?_
  refine DW.reg (by simp; rfl) ?_
  refine DW.condF (by simp) ?_
  refine DW.skip ?_
  refine DW.seq ?_
  refine DW.seq ?_
  refine DW.regs ?_
  refine RegO.opN 4 (by simp; rfl) ?_
  refine RegO.step rfl (OpStep.callA rfl (by simp; exact ⟨rfl, rfl⟩) (by simp; rfl) (by exact eqCellS_spec _ (by omega)) (by simp) (by simp; rfl)) ?_
  refine RegO.opN 1 (by simp; rfl) ?_
  refine RegO.nil ?_
  refine DW.condF (by simp) ?_
  refine DW.skip ?_
  refine DW.seq ?_
  refine DW.reg (by simp; rfl) ?_
  refine DW.ret ?_
  simp [Tryz.results21]
theorem eqAsk_spec (a : Ask) (h : Row.sz a ≤ 2 ^ 36) : Spec Tryz.prog 193 [raAsk a, raAsk a] [none] [db true] [raAsk a, raAsk a] := by
  refine Spec.intro Tryz.func193 rfl rfl Tryz.ntmps193 rfl (by simp) ?_
  have hz := Ask_sz a
  refine DW.seq ?_
  refine DW.reg (by simp; rfl) ?_
  refine DW.seq ?_
  refine DW.seq ?_
  refine DW.reg (by simp; rfl) ?_
  refine DW.condF (by simp) ?_
  refine DW.skip ?_
  refine DW.seq ?_
  refine DW.seq ?_
  refine DW.reg (by simp; rfl) ?_
  refine DW.condF (by simp) ?_
  refine DW.skip ?_
  refine DW.seq ?_
  refine DW.seq ?_
  refine DW.reg (by simp; rfl) ?_
  refine DW.condF (by simp) ?_
  refine DW.skip ?_
  refine DW.seq ?_
  refine DW.seq ?_
  refine DW.reg (by simp; rfl) ?_
  refine DW.condF (by simp) ?_
  refine DW.skip ?_
  refine DW.seq ?_
  refine DW.seq ?_
  refine DW.reg (by simp; rfl) ?_
  refine DW.condF (by simp) ?_
  refine DW.skip ?_
  refine DW.seq ?_
  refine DW.seq ?_
  refine DW.reg (by simp; rfl) ?_
  refine DW.condF (by simp) ?_
  refine DW.skip ?_
  refine DW.seq ?_
  refine DW.reg (by simp; rfl) ?_
  refine DW.ret ?_
  simp [Tryz.results193]
theorem eqStringS_spec (l : List ByteArray) (h : szL l ≤ 2 ^ 36) : Spec Tryz.prog 110 [ra l, ra l] [none] [db true] [ra l, ra l] := by
  refine Spec.intro Tryz.func110 rfl rfl Tryz.ntmps110 rfl (by simp) ?_
  have hll := szL_len l
  refine DW.seq ?_
  refine DW.reg (by simp; rfl) ?_
  refine DW.seq ?_
  refine DW.seq ?_
  refine DW.reg (by simp; rfl) ?_
  refine DW.condF (by simp) ?_
  refine DW.skip ?_
  refine DW.seq ?_
  refine DW.seq ?_
  refine DW.reg (by simp; rfl) ?_
  refine DW.block ?_
  refine DW.loopS (α := Nat) (fun i => i ≤ l.length) (fun i => l.length - i) (fun i => [(5, vi i)]) (fun i => []) [(0, _), (1, _)] [] [] 0 (by simp) (by simp; exact ⟨rfl, rfl⟩) (by simp) (by simp) (by rfl) ?_
  intro i hi
  refine DW.seq ?_
  refine DW.seq ?_
  refine DW.reg (by simp; rfl) ?_
  refine DW.condB (by simp; exact rfl) (fun hc1 => ?_) (fun hc1 => ?_)
  · have hlt : i < l.length := by simpa using hc1
    have hd := rR_get_ByteArray l i hlt
    have hs := szL_at l i hlt
    have hlt' : (i : Int) < l.length := by omega
    have w1 : IntKind.i64.wrap ((i : Int) + 1) = ((i + 1 : Nat) : Int) := (wr _ (by omega) (by omega)).trans (by omega)
    generalize l[i] = c at hd hs
    refine DW.skip ?_
    refine DW.seq ?_
    refine DW.block ?_
    refine DW.seq ?_
    refine DW.drawn mixed (by kernel_rfl) ?_
    refine RegD.addN 9 (by simp [hd, hlt']; (first | done | exact ⟨rfl, rfl⟩ | rfl)) ?_
    refine RegD.nil ⟨by kernel_rfl, ?_⟩
    refine DW.condF (by simp) ?_
    refine DW.skip ?_
    refine DW.reg (by simp [w1]; rfl) ?_
    exact ⟨i + 1, hlt, by omega, by simp, by simp, by simp, by rfl⟩
  · refine DW.exit ?_
    refine DW.seq ?_
    refine DW.reg (by simp; rfl) ?_
    refine DW.ret ?_
    simp [Tryz.results110]
theorem eqResult_spec (a : Result) (h : Row.sz a ≤ 2 ^ 36) : Spec Tryz.prog 38 [raResult a, raResult a] [none] [db true] [raResult a, raResult a] := by
  refine Spec.intro Tryz.func38 rfl rfl Tryz.ntmps38 rfl (by simp) ?_
  have hz := Result_sz a
  refine DW.seq ?_
  refine DW.reg (by simp; rfl) ?_
  refine DW.seq ?_
  refine DW.seq ?_
  refine DW.reg (by simp; rfl) ?_
  refine DW.condF (by simp) ?_
  refine DW.skip ?_
  refine DW.seq ?_
  refine DW.seq ?_
  refine DW.reg (by simp; rfl) ?_
  refine DW.condF (by simp) ?_
  refine DW.skip ?_
  refine DW.seq ?_
  refine DW.seq ?_
  refine DW.reg (by simp; rfl) ?_
  refine DW.condF (by simp) ?_
  refine DW.skip ?_
  refine DW.seq ?_
  refine DW.seq ?_
  refine DW.reg (by simp; rfl) ?_
  refine DW.condF (by simp) ?_
  refine DW.skip ?_
  refine DW.seq ?_
  refine DW.seq ?_
  refine DW.regs ?_
  refine RegO.opN 4 (by simp; rfl) ?_
  refine RegO.step rfl (OpStep.callA rfl (by simp; exact ⟨rfl, rfl⟩) (by simp; rfl) (by exact eqStringS_spec _ (by omega)) (by simp) (by simp; rfl)) ?_
  refine RegO.opN 1 (by simp; rfl) ?_
  refine RegO.nil ?_
  refine DW.condF (by simp) ?_
  refine DW.skip ?_
  refine DW.seq ?_
  refine DW.reg (by simp; rfl) ?_
  refine DW.ret ?_
  simp [Tryz.results38]
theorem eqStep_spec (a : Step) (h : Row.sz a ≤ 2 ^ 36) : Spec Tryz.prog 66 [raStep a, raStep a] [none] [db true] [raStep a, raStep a] := by
  refine Spec.intro Tryz.func66 rfl rfl Tryz.ntmps66 rfl (by simp) ?_
  have hz := Step_sz a
  refine DW.seq ?_
  refine DW.reg (by simp; rfl) ?_
  refine DW.seq ?_
  refine DW.seq ?_
  refine DW.reg (by simp; rfl) ?_
  refine DW.condF (by simp) ?_
  refine DW.skip ?_
  refine DW.seq ?_
  refine DW.seq ?_
  refine DW.reg (by simp; rfl) ?_
  refine DW.condF (by simp) ?_
  refine DW.skip ?_
  refine DW.seq ?_
  refine DW.seq ?_
  refine DW.reg (by simp; rfl) ?_
  refine DW.condF (by simp) ?_
  refine DW.skip ?_
  refine DW.seq ?_
  refine DW.reg (by simp; rfl) ?_
  refine DW.ret ?_
  simp [Tryz.results66]
theorem eqStepS_spec (l : List Step) (h : szL l ≤ 2 ^ 36) : Spec Tryz.prog 14 [ra l, ra l] [none] [db true] [ra l, ra l] := by
  refine Spec.intro Tryz.func14 rfl rfl Tryz.ntmps14 rfl (by simp) ?_
  have hll := szL_len l
  refine DW.seq ?_
  refine DW.reg (by simp; rfl) ?_
  refine DW.seq ?_
  refine DW.seq ?_
  refine DW.reg (by simp; rfl) ?_
  refine DW.condF (by simp) ?_
  refine DW.skip ?_
  refine DW.seq ?_
  refine DW.seq ?_
  refine DW.reg (by simp; rfl) ?_
  refine DW.block ?_
  refine DW.loopS (α := Nat) (fun i => i ≤ l.length) (fun i => l.length - i) (fun i => [(5, vi i)]) (fun i => []) [(0, _), (1, _)] [] [] 0 (by simp) (by simp; exact ⟨rfl, rfl⟩) (by simp) (by simp) (by rfl) ?_
  intro i hi
  refine DW.seq ?_
  refine DW.seq ?_
  refine DW.reg (by simp; rfl) ?_
  refine DW.condB (by simp; exact rfl) (fun hc1 => ?_) (fun hc1 => ?_)
  · have hlt : i < l.length := by simpa using hc1
    have hd := rR_drop_Step l i hlt
    have hs := szL_at l i hlt
    have hlt' : (i : Int) < l.length := by omega
    have w1 : IntKind.i64.wrap ((i : Int) + 1) = ((i + 1 : Nat) : Int) := (wr _ (by omega) (by omega)).trans (by omega)
    generalize l[i] = c at hd hs
    refine DW.skip ?_
    refine DW.seq ?_
    refine DW.block ?_
    refine DW.seq ?_
    refine DW.drawn mixed (by kernel_rfl) ?_
    refine RegD.addN 8 (by simp [hd, hlt']; (first | done | exact ⟨rfl, rfl⟩ | rfl)) ?_
    refine RegD.cert (Cert.callA rfl (by simp) rfl (by decide) (by simp [hd, hlt']; exact ⟨rfl, rfl⟩) (by simp [hd, hlt']; rfl) (by exact eqStep_spec _ (by omega)) rfl (by simp) (by simp; rfl) rfl) ?_
    refine RegD.addN 1 (by simp [hd, hlt']; (first | done | exact ⟨rfl, rfl⟩ | rfl)) ?_
    refine RegD.nil ⟨by kernel_rfl, ?_⟩
    refine DW.condF (by simp) ?_
    refine DW.skip ?_
    refine DW.reg (by simp [w1]; rfl) ?_
    exact ⟨i + 1, hlt, by omega, by simp, by simp, by simp, by rfl⟩
  · refine DW.exit ?_
    refine DW.seq ?_
    refine DW.reg (by simp; rfl) ?_
    refine DW.ret ?_
    simp [Tryz.results14]
theorem eqSealing_spec (a : Sealing) (h : Row.sz a ≤ 2 ^ 36) : Spec Tryz.prog 144 [raSealing a, raSealing a] [none] [db true] [raSealing a, raSealing a] := by
  refine Spec.intro Tryz.func144 rfl rfl Tryz.ntmps144 rfl (by simp) ?_
  have hz := Sealing_sz a
  refine DW.seq ?_
  refine DW.reg (by simp; rfl) ?_
  refine DW.seq ?_
  refine DW.seq ?_
  refine DW.reg (by simp; rfl) ?_
  refine DW.condF (by simp) ?_
  refine DW.skip ?_
  refine DW.seq ?_
  refine DW.seq ?_
  refine DW.reg (by simp; rfl) ?_
  refine DW.condF (by simp) ?_
  refine DW.skip ?_
  refine DW.seq ?_
  refine DW.seq ?_
  refine DW.reg (by simp; rfl) ?_
  refine DW.condF (by simp) ?_
  refine DW.skip ?_
  refine DW.seq ?_
  refine DW.reg (by simp; rfl) ?_
  refine DW.ret ?_
  simp [Tryz.results144]
theorem eqSealingS_spec (l : List Sealing) (h : szL l ≤ 2 ^ 36) : Spec Tryz.prog 89 [ra l, ra l] [none] [db true] [ra l, ra l] := by
  refine Spec.intro Tryz.func89 rfl rfl Tryz.ntmps89 rfl (by simp) ?_
  have hll := szL_len l
  refine DW.seq ?_
  refine DW.reg (by simp; rfl) ?_
  refine DW.seq ?_
  refine DW.seq ?_
  refine DW.reg (by simp; rfl) ?_
  refine DW.condF (by simp) ?_
  refine DW.skip ?_
  refine DW.seq ?_
  refine DW.seq ?_
  refine DW.reg (by simp; rfl) ?_
  refine DW.block ?_
  refine DW.loopS (α := Nat) (fun i => i ≤ l.length) (fun i => l.length - i) (fun i => [(5, vi i)]) (fun i => []) [(0, _), (1, _)] [] [] 0 (by simp) (by simp; exact ⟨rfl, rfl⟩) (by simp) (by simp) (by rfl) ?_
  intro i hi
  refine DW.seq ?_
  refine DW.seq ?_
  refine DW.reg (by simp; rfl) ?_
  refine DW.condB (by simp; exact rfl) (fun hc1 => ?_) (fun hc1 => ?_)
  · have hlt : i < l.length := by simpa using hc1
    have hd := rR_drop_Sealing l i hlt
    have hs := szL_at l i hlt
    have hlt' : (i : Int) < l.length := by omega
    have w1 : IntKind.i64.wrap ((i : Int) + 1) = ((i + 1 : Nat) : Int) := (wr _ (by omega) (by omega)).trans (by omega)
    generalize l[i] = c at hd hs
    refine DW.skip ?_
    refine DW.seq ?_
    refine DW.block ?_
    refine DW.seq ?_
    refine DW.drawn mixed (by kernel_rfl) ?_
    refine RegD.addN 8 (by simp [hd, hlt']; (first | done | exact ⟨rfl, rfl⟩ | rfl)) ?_
    refine RegD.cert (Cert.callA rfl (by simp) rfl (by decide) (by simp [hd, hlt']; exact ⟨rfl, rfl⟩) (by simp [hd, hlt']; rfl) (by exact eqSealing_spec _ (by omega)) rfl (by simp) (by simp; rfl) rfl) ?_
    refine RegD.addN 1 (by simp [hd, hlt']; (first | done | exact ⟨rfl, rfl⟩ | rfl)) ?_
    refine RegD.nil ⟨by kernel_rfl, ?_⟩
    refine DW.condF (by simp) ?_
    refine DW.skip ?_
    refine DW.reg (by simp [w1]; rfl) ?_
    exact ⟨i + 1, hlt, by omega, by simp, by simp, by simp, by rfl⟩
  · refine DW.exit ?_
    refine DW.seq ?_
    refine DW.reg (by simp; rfl) ?_
    refine DW.ret ?_
    simp [Tryz.results89]
theorem eqJob_spec (a : Job) (h : Row.sz a ≤ 2 ^ 36) : Spec Tryz.prog 143 [raJob a, raJob a] [none] [db true] [raJob a, raJob a] := by
  refine Spec.intro Tryz.func143 rfl rfl Tryz.ntmps143 rfl (by simp) ?_
  have hz := Job_sz a
  refine DW.seq ?_
  refine DW.reg (by simp; rfl) ?_
  refine DW.seq ?_
  refine DW.seq ?_
  refine DW.regs ?_
  refine RegO.opN 4 (by simp; rfl) ?_
  refine RegO.step rfl (OpStep.callA rfl (by simp; exact ⟨rfl, rfl⟩) (by simp; rfl) (by exact eqAsk_spec _ (by omega)) (by simp) (by simp; rfl)) ?_
  refine RegO.opN 1 (by simp; rfl) ?_
  refine RegO.nil ?_
  refine DW.condF (by simp) ?_
  refine DW.skip ?_
  refine DW.seq ?_
  refine DW.seq ?_
  refine DW.regs ?_
  refine RegO.opN 4 (by simp; rfl) ?_
  refine RegO.step rfl (OpStep.callA rfl (by simp; exact ⟨rfl, rfl⟩) (by simp; rfl) (by exact eqResult_spec _ (by omega)) (by simp) (by simp; rfl)) ?_
  refine RegO.opN 1 (by simp; rfl) ?_
  refine RegO.nil ?_
  refine DW.condF (by simp) ?_
  refine DW.skip ?_
  refine DW.seq ?_
  refine DW.seq ?_
  refine DW.regs ?_
  refine RegO.opN 4 (by simp; rfl) ?_
  refine RegO.step rfl (OpStep.callA rfl (by simp; exact ⟨rfl, rfl⟩) (by simp; rfl) (by exact eqStepS_spec _ (by omega)) (by simp) (by simp; rfl)) ?_
  refine RegO.opN 1 (by simp; rfl) ?_
  refine RegO.nil ?_
  refine DW.condF (by simp) ?_
  refine DW.skip ?_
  refine DW.seq ?_
  refine DW.seq ?_
  refine DW.regs ?_
  refine RegO.opN 4 (by simp; rfl) ?_
  refine RegO.step rfl (OpStep.callA rfl (by simp; exact ⟨rfl, rfl⟩) (by simp; rfl) (by exact eqSealingS_spec _ (by omega)) (by simp) (by simp; rfl)) ?_
  refine RegO.opN 1 (by simp; rfl) ?_
  refine RegO.nil ?_
  refine DW.condF (by simp) ?_
  refine DW.skip ?_
  refine DW.seq ?_
  refine DW.seq ?_
  refine DW.reg (by simp; rfl) ?_
  refine DW.condF (by simp) ?_
  refine DW.skip ?_
  refine DW.seq ?_
  refine DW.seq ?_
  refine DW.reg (by simp; rfl) ?_
  refine DW.condF (by simp) ?_
  refine DW.skip ?_
  refine DW.seq ?_
  refine DW.seq ?_
  refine DW.reg (by simp; rfl) ?_
  refine DW.condF (by simp) ?_
  refine DW.skip ?_
  refine DW.seq ?_
  refine DW.reg (by simp; rfl) ?_
  refine DW.ret ?_
  simp [Tryz.results143]
theorem eqJobS_spec (l : List Job) (h : szL l ≤ 2 ^ 36) : Spec Tryz.prog 88 [ra l, ra l] [none] [db true] [ra l, ra l] := by
  refine Spec.intro Tryz.func88 rfl rfl Tryz.ntmps88 rfl (by simp) ?_
  have hll := szL_len l
  refine DW.seq ?_
  refine DW.reg (by simp; rfl) ?_
  refine DW.seq ?_
  refine DW.seq ?_
  refine DW.reg (by simp; rfl) ?_
  refine DW.condF (by simp) ?_
  refine DW.skip ?_
  refine DW.seq ?_
  refine DW.seq ?_
  refine DW.reg (by simp; rfl) ?_
  refine DW.block ?_
  refine DW.loopS (α := Nat) (fun i => i ≤ l.length) (fun i => l.length - i) (fun i => [(5, vi i)]) (fun i => []) [(0, _), (1, _)] [] [] 0 (by simp) (by simp; exact ⟨rfl, rfl⟩) (by simp) (by simp) (by rfl) ?_
  intro i hi
  refine DW.seq ?_
  refine DW.seq ?_
  refine DW.reg (by simp; rfl) ?_
  refine DW.condB (by simp; exact rfl) (fun hc1 => ?_) (fun hc1 => ?_)
  · have hlt : i < l.length := by simpa using hc1
    have hd := rR_drop_Job l i hlt
    have hs := szL_at l i hlt
    have hlt' : (i : Int) < l.length := by omega
    have w1 : IntKind.i64.wrap ((i : Int) + 1) = ((i + 1 : Nat) : Int) := (wr _ (by omega) (by omega)).trans (by omega)
    generalize l[i] = c at hd hs
    refine DW.skip ?_
    refine DW.seq ?_
    refine DW.block ?_
    refine DW.seq ?_
    refine DW.drawn mixed (by kernel_rfl) ?_
    refine RegD.addN 8 (by simp [hd, hlt']; (first | done | exact ⟨rfl, rfl⟩ | rfl)) ?_
    refine RegD.cert (Cert.callA rfl (by simp) rfl (by decide) (by simp [hd, hlt']; exact ⟨rfl, rfl⟩) (by simp [hd, hlt']; rfl) (by exact eqJob_spec _ (by omega)) rfl (by simp) (by simp; rfl) rfl) ?_
    refine RegD.addN 1 (by simp [hd, hlt']; (first | done | exact ⟨rfl, rfl⟩ | rfl)) ?_
    refine RegD.nil ⟨by kernel_rfl, ?_⟩
    refine DW.condF (by simp) ?_
    refine DW.skip ?_
    refine DW.reg (by simp [w1]; rfl) ?_
    exact ⟨i + 1, hlt, by omega, by simp, by simp, by simp, by rfl⟩
  · refine DW.exit ?_
    refine DW.seq ?_
    refine DW.reg (by simp; rfl) ?_
    refine DW.ret ?_
    simp [Tryz.results88]
theorem eqSystem_spec (a : System) (h : Row.sz a ≤ 2 ^ 36) : Spec Tryz.prog 26 [raSystem a, raSystem a] [none] [db true] [raSystem a, raSystem a] := by
  refine Spec.intro Tryz.func26 rfl rfl Tryz.ntmps26 rfl (by simp) ?_
  have hz := System_sz a
  refine DW.seq ?_
  refine DW.reg (by simp; rfl) ?_
  refine DW.seq ?_
  refine DW.seq ?_
  refine DW.regs ?_
  refine RegO.opN 4 (by simp; rfl) ?_
  refine RegO.step rfl (OpStep.callA rfl (by simp; exact ⟨rfl, rfl⟩) (by simp; rfl) (by exact eqGeo_spec _ (by omega)) (by simp) (by simp; rfl)) ?_
  refine RegO.opN 1 (by simp; rfl) ?_
  refine RegO.nil ?_
  refine DW.condF (by simp) ?_
  refine DW.skip ?_
  refine DW.seq ?_
  refine DW.seq ?_
  refine DW.regs ?_
  refine RegO.opN 4 (by simp; rfl) ?_
  refine RegO.step rfl (OpStep.callA rfl (by simp; exact ⟨rfl, rfl⟩) (by simp; rfl) (by exact eqMemory_spec _ (by omega)) (by simp) (by simp; rfl)) ?_
  refine RegO.opN 1 (by simp; rfl) ?_
  refine RegO.nil ?_
  refine DW.condF (by simp) ?_
  refine DW.skip ?_
  refine DW.seq ?_
  refine DW.seq ?_
  refine DW.regs ?_
  refine RegO.opN 4 (by simp; rfl) ?_
  refine RegO.step rfl (OpStep.callA rfl (by simp; exact ⟨rfl, rfl⟩) (by simp; rfl) (by exact eqJobS_spec _ (by omega)) (by simp) (by simp; rfl)) ?_
  refine RegO.opN 1 (by simp; rfl) ?_
  refine RegO.nil ?_
  refine DW.condF (by simp) ?_
  refine DW.skip ?_
  refine DW.seq ?_
  refine DW.seq ?_
  refine DW.regs ?_
  refine RegO.opN 4 (by simp; rfl) ?_
  refine RegO.step rfl (OpStep.callA rfl (by simp; exact ⟨rfl, rfl⟩) (by simp; rfl) (by exact eqSealingS_spec _ (by omega)) (by simp) (by simp; rfl)) ?_
  refine RegO.opN 1 (by simp; rfl) ?_
  refine RegO.nil ?_
  refine DW.condF (by simp) ?_
  refine DW.skip ?_
  refine DW.seq ?_
  refine DW.reg (by simp; rfl) ?_
  refine DW.ret ?_
  simp [Tryz.results26]
theorem eqItem_spec (a : Item) (h : Row.sz a ≤ 2 ^ 36) : Spec Tryz.prog 237 [raItem a, raItem a] [none] [db true] [raItem a, raItem a] := by
  refine Spec.intro Tryz.func237 rfl rfl Tryz.ntmps237 rfl (by simp) ?_
  have hz := Item_sz a
  refine DW.seq ?_
  refine DW.reg (by simp; rfl) ?_
  refine DW.seq ?_
  refine DW.seq ?_
  refine DW.reg (by simp; rfl) ?_
  refine DW.condF (by simp) ?_
  refine DW.skip ?_
  refine DW.seq ?_
  refine DW.seq ?_
  refine DW.reg (by simp; rfl) ?_
  refine DW.condF (by simp) ?_
  refine DW.skip ?_
  refine DW.seq ?_
  refine DW.seq ?_
  refine DW.reg (by simp; rfl) ?_
  refine DW.condF (by simp) ?_
  refine DW.skip ?_
  refine DW.seq ?_
  refine DW.reg (by simp; rfl) ?_
  refine DW.ret ?_
  simp [Tryz.results237]
theorem eqItemS_spec (l : List Item) (h : szL l ≤ 2 ^ 36) : Spec Tryz.prog 194 [ra l, ra l] [none] [db true] [ra l, ra l] := by
  refine Spec.intro Tryz.func194 rfl rfl Tryz.ntmps194 rfl (by simp) ?_
  have hll := szL_len l
  refine DW.seq ?_
  refine DW.reg (by simp; rfl) ?_
  refine DW.seq ?_
  refine DW.seq ?_
  refine DW.reg (by simp; rfl) ?_
  refine DW.condF (by simp) ?_
  refine DW.skip ?_
  refine DW.seq ?_
  refine DW.seq ?_
  refine DW.reg (by simp; rfl) ?_
  refine DW.block ?_
  refine DW.loopS (α := Nat) (fun i => i ≤ l.length) (fun i => l.length - i) (fun i => [(5, vi i)]) (fun i => []) [(0, _), (1, _)] [] [] 0 (by simp) (by simp; exact ⟨rfl, rfl⟩) (by simp) (by simp) (by rfl) ?_
  intro i hi
  refine DW.seq ?_
  refine DW.seq ?_
  refine DW.reg (by simp; rfl) ?_
  refine DW.condB (by simp; exact rfl) (fun hc1 => ?_) (fun hc1 => ?_)
  · have hlt : i < l.length := by simpa using hc1
    have hd := rR_drop_Item l i hlt
    have hs := szL_at l i hlt
    have hlt' : (i : Int) < l.length := by omega
    have w1 : IntKind.i64.wrap ((i : Int) + 1) = ((i + 1 : Nat) : Int) := (wr _ (by omega) (by omega)).trans (by omega)
    generalize l[i] = c at hd hs
    refine DW.skip ?_
    refine DW.seq ?_
    refine DW.block ?_
    refine DW.seq ?_
    refine DW.drawn mixed (by kernel_rfl) ?_
    refine RegD.addN 8 (by simp [hd, hlt']; (first | done | exact ⟨rfl, rfl⟩ | rfl)) ?_
    refine RegD.cert (Cert.callA rfl (by simp) rfl (by decide) (by simp [hd, hlt']; exact ⟨rfl, rfl⟩) (by simp [hd, hlt']; rfl) (by exact eqItem_spec _ (by omega)) rfl (by simp) (by simp; rfl) rfl) ?_
    refine RegD.addN 1 (by simp [hd, hlt']; (first | done | exact ⟨rfl, rfl⟩ | rfl)) ?_
    refine RegD.nil ⟨by kernel_rfl, ?_⟩
    refine DW.condF (by simp) ?_
    refine DW.skip ?_
    refine DW.reg (by simp [w1]; rfl) ?_
    exact ⟨i + 1, hlt, by omega, by simp, by simp, by simp, by rfl⟩
  · refine DW.exit ?_
    refine DW.seq ?_
    refine DW.reg (by simp; rfl) ?_
    refine DW.ret ?_
    simp [Tryz.results194]
theorem eqView_spec (a : View) (h : Row.sz a ≤ 2 ^ 36) : Spec Tryz.prog 145 [raView a, raView a] [none] [db true] [raView a, raView a] := by
  refine Spec.intro Tryz.func145 rfl rfl Tryz.ntmps145 rfl (by simp) ?_
  have hz := View_sz a
  refine DW.seq ?_
  refine DW.reg (by simp; rfl) ?_
  refine DW.seq ?_
  refine DW.seq ?_
  refine DW.regs ?_
  refine RegO.opN 4 (by simp; rfl) ?_
  refine RegO.step rfl (OpStep.callA rfl (by simp; exact ⟨rfl, rfl⟩) (by simp; rfl) (by exact eqItemS_spec _ (by omega)) (by simp) (by simp; rfl)) ?_
  refine RegO.opN 1 (by simp; rfl) ?_
  refine RegO.nil ?_
  refine DW.condF (by simp) ?_
  refine DW.skip ?_
  refine DW.seq ?_
  refine DW.reg (by simp; rfl) ?_
  refine DW.ret ?_
  simp [Tryz.results145]
theorem eqViewS_spec (l : List View) (h : szL l ≤ 2 ^ 36) : Spec Tryz.prog 94 [ra l, ra l] [none] [db true] [ra l, ra l] := by
  refine Spec.intro Tryz.func94 rfl rfl Tryz.ntmps94 rfl (by simp) ?_
  have hll := szL_len l
  refine DW.seq ?_
  refine DW.reg (by simp; rfl) ?_
  refine DW.seq ?_
  refine DW.seq ?_
  refine DW.reg (by simp; rfl) ?_
  refine DW.condF (by simp) ?_
  refine DW.skip ?_
  refine DW.seq ?_
  refine DW.seq ?_
  refine DW.reg (by simp; rfl) ?_
  refine DW.block ?_
  refine DW.loopS (α := Nat) (fun i => i ≤ l.length) (fun i => l.length - i) (fun i => [(5, vi i)]) (fun i => []) [(0, _), (1, _)] [] [] 0 (by simp) (by simp; exact ⟨rfl, rfl⟩) (by simp) (by simp) (by rfl) ?_
  intro i hi
  refine DW.seq ?_
  refine DW.seq ?_
  refine DW.reg (by simp; rfl) ?_
  refine DW.condB (by simp; exact rfl) (fun hc1 => ?_) (fun hc1 => ?_)
  · have hlt : i < l.length := by simpa using hc1
    have hd := rR_drop_View l i hlt
    simp only [Nat.mul_one] at hd
    have hs := szL_at l i hlt
    have hlt' : (i : Int) < l.length := by omega
    have w1 : IntKind.i64.wrap ((i : Int) + 1) = ((i + 1 : Nat) : Int) := (wr _ (by omega) (by omega)).trans (by omega)
    generalize l[i] = c at hd hs
    refine DW.skip ?_
    refine DW.seq ?_
    refine DW.block ?_
    refine DW.seq ?_
    refine DW.drawn mixed (by kernel_rfl) ?_
    refine RegD.addN 8 (by simp [hd, hlt']; (first | done | exact ⟨rfl, rfl⟩ | rfl)) ?_
    refine RegD.cert (Cert.callA rfl (by simp) rfl (by decide) (by simp [hd, hlt']; exact ⟨rfl, rfl⟩) (by simp [hd, hlt']; rfl) (by exact eqView_spec _ (by omega)) rfl (by simp) (by simp; rfl) rfl) ?_
    refine RegD.addN 1 (by simp [hd, hlt']; (first | done | exact ⟨rfl, rfl⟩ | rfl)) ?_
    refine RegD.nil ⟨by kernel_rfl, ?_⟩
    refine DW.condF (by simp) ?_
    refine DW.skip ?_
    refine DW.reg (by simp [w1]; rfl) ?_
    exact ⟨i + 1, hlt, by omega, by simp, by simp, by simp, by rfl⟩
  · refine DW.exit ?_
    refine DW.seq ?_
    refine DW.reg (by simp; rfl) ?_
    refine DW.ret ?_
    simp [Tryz.results94]
theorem eqWorld_spec (a : World) (h : Row.sz a ≤ 2 ^ 36) : Spec Tryz.prog 31 [raWorld a, raWorld a] [none] [db true] [raWorld a, raWorld a] := by
  refine Spec.intro Tryz.func31 rfl rfl Tryz.ntmps31 rfl (by simp) ?_
  have hz := World_sz a
  refine DW.seq ?_
  refine DW.reg (by simp; rfl) ?_
  refine DW.seq ?_
  refine DW.seq ?_
  refine DW.regs ?_
  refine RegO.opN 4 (by simp; rfl) ?_
  refine RegO.step rfl (OpStep.callA rfl (by simp; exact ⟨rfl, rfl⟩) (by simp; rfl) (by exact eqSystem_spec _ (by omega)) (by simp) (by simp; rfl)) ?_
  refine RegO.opN 1 (by simp; rfl) ?_
  refine RegO.nil ?_
  refine DW.condF (by simp) ?_
  refine DW.skip ?_
  refine DW.seq ?_
  refine DW.seq ?_
  refine DW.regs ?_
  refine RegO.opN 4 (by simp; rfl) ?_
  refine RegO.step rfl (OpStep.callA rfl (by simp; exact ⟨rfl, rfl⟩) (by simp; rfl) (by exact eqViewS_spec _ (by omega)) (by simp) (by simp; rfl)) ?_
  refine RegO.opN 1 (by simp; rfl) ?_
  refine RegO.nil ?_
  refine DW.condF (by simp) ?_
  refine DW.skip ?_
  refine DW.seq ?_
  refine DW.seq ?_
  refine DW.regs ?_
  refine RegO.opN 4 (by simp; rfl) ?_
  refine RegO.step rfl (OpStep.callA rfl (by simp; exact ⟨rfl, rfl⟩) (by simp; rfl) (by exact eqViewS_spec _ (by omega)) (by simp) (by simp; rfl)) ?_
  refine RegO.opN 1 (by simp; rfl) ?_
  refine RegO.nil ?_
  refine DW.condF (by simp) ?_
  refine DW.skip ?_
  refine DW.seq ?_
  refine DW.seq ?_
  refine DW.reg (by simp; rfl) ?_
  refine DW.condF (by simp) ?_
  refine DW.skip ?_
  refine DW.seq ?_
  refine DW.reg (by simp; rfl) ?_
  refine DW.ret ?_
  simp [Tryz.results31]
theorem markCellS_spec (l : List Cell) (k : Int) (h0 : 0 < k) (h1 : k + (ctL l : Int) ≤ 1152921504606846976) (h : szL l ≤ 2 ^ 36) : Spec Tryz.prog 85 [.one (.m 3 l.length (rD l)), ri k] [none] [di (k + (ctL l : Int))] [.one (.m 3 l.length (rD (mkL l k))), ri k] := by
  refine Spec.intro Tryz.func85 rfl rfl Tryz.ntmps85 rfl (by simp) ?_
  have hll := szL_len l
  refine DW.seq ?_
  refine DW.reg (by simp; rfl) ?_
  refine DW.seq ?_
  refine DW.seq ?_
  refine DW.reg (by simp; rfl) ?_
  refine DW.block ?_
  refine DW.loopS (α := Nat × Int) (fun p => p.1 ≤ l.length ∧ p.2 = k + (ctL (l.take p.1) : Int)) (fun p => l.length - p.1) (fun p => [(5, vi p.1), (1, vi p.2)]) (fun p => [(0, .hold [.ow () 3 l.length (rD (mkL (l.take p.1) k) ++ rD (l.drop p.1))])]) [(0, _)] [] [(0, .sl 0 [0] 0 l.length)] (0, k) (⟨Nat.zero_le _, by simp⟩) (by simp; exact rfl) (by simp) (by simp) (by rfl) ?_
  rintro ⟨i, K⟩ ⟨hi, hK⟩
  simp only at hi hK ⊢
  refine DW.seq ?_
  refine DW.seq ?_
  refine DW.reg (by simp; rfl) ?_
  refine DW.condB (by simp; exact rfl) (fun hc0 => ?_) (fun hc0 => ?_)
  · have hlt : i < l.length := by simpa using hc0
    have hd := rD_dropc l i hlt
    have hs := szL_at l i hlt
    have hct := ctL_take l i hlt
    have hca := ctL_at l i hlt
    have hm := mkL_take l i k hlt
    replace hm := congrArg rD hm
    rw [rD_append, ← hK] at hm
    have hlt' : (i : Int) < l.length := by omega
    have w1 : IntKind.i64.wrap ((i : Int) + 1) = ((i + 1 : Nat) : Int) := (wr _ (by omega) (by omega)).trans (by omega)
    have hA : (rD (mkL (l.take i) k)).length = i * 3 := by rw [rD_len_Cell, mkL_len, List.length_take, Nat.min_eq_left (by omega)]
    generalize l[i] = c at hd hs hct hca hm
    have hcc := Cell_ct c
    have hcs := Cell_sz c
    rw [Cell_mk] at hm
    replace hm : rD (mkL (l.take (i + 1)) k) = rD (mkL (l.take i) k) ++ Cell.d _ := hm.trans (by simp only [rD, List.flatMap_cons, List.flatMap_nil, List.append_nil]; rfl)
    replace hd : rD (l.drop i) = Cell.d c ++ rD (l.drop (i + 1)) := hd
    have t0 : 0 < K ∧ K < 4611686018427387904 := ⟨by omega, by omega⟩
    have t1 : 0 < K + 1 ∧ K + 1 < 4611686018427387904 := ⟨by omega, by omega⟩
    have t2 : 0 < K + 2 ∧ K + 2 < 4611686018427387904 := ⟨by omega, by omega⟩
    obtain ⟨v1, v2, v3⟩ : IntKind.i64.wrap (K + 1) = K + 1 ∧ IntKind.i64.wrap (K + 1 + 1) = K + 2 ∧ IntKind.i64.wrap (K + 2 + 1) = K + 3 := ⟨(wr _ (by omega) (by omega)).trans (by omega), (wr _ (by omega) (by omega)).trans (by omega), (wr _ (by omega) (by omega)).trans (by omega)⟩
    refine DW.skip ?_
    refine DW.seq ?_
    refine DW.block ?_
    refine DW.seq ?_
    refine DW.reg (by simp [hd, hlt', app_get hA, app_get0 hA, app_set hA, app_set0 hA, Nat.add_assoc]; rfl) ?_
    refine DW.seq ?_
    refine DW.reg (by simp [v1]; rfl) ?_
    refine DW.seq ?_
    refine DW.regs ?_
    refine RegO.opN 3 (by simp [hd, hlt', app_get hA, app_get0 hA, app_set hA, app_set0 hA, Nat.add_assoc]; rfl) ?_
    refine RegO.step rfl (OpStep.callA rfl (by simp [hd, hlt', app_get hA, app_get0 hA, app_set hA, app_set0 hA, Nat.add_assoc]; exact ⟨rfl, rfl⟩) (by simp [hd, hlt', app_get hA, app_get0 hA, app_set hA, app_set0 hA, Nat.add_assoc]; rfl) (by exact markText_spec _ t1.1 t1.2) (by simp) (by simp [hd, hlt', app_get hA, app_get0 hA, app_set hA, app_set0 hA, Nat.add_assoc]; rfl)) ?_
    refine RegO.opN 3 (by simp [hd, hlt', app_get hA, app_get0 hA, app_set hA, app_set0 hA, Nat.add_assoc]; rfl) ?_
    refine RegO.nil ?_
    refine DW.seq ?_
    refine DW.reg (by simp [v2]; rfl) ?_
    refine DW.seq ?_
    refine DW.reg (by simp [hd, hlt', app_get hA, app_get0 hA, app_set hA, app_set0 hA, Nat.add_assoc]; rfl) ?_
    refine DW.reg (by simp [v3]; rfl) ?_
    refine DW.reg (by simp [w1]; rfl) ?_
    clear v1 v2 v3
    exact ⟨(i + 1, K + 3), ⟨hlt, by simp only; omega⟩, by simp only; omega, by simp, by simp [hm, mb], by simp, by rfl⟩
  · have hil : i = l.length := by
      have : ¬ i < l.length := by simpa using hc0
      omega
    subst hil
    rw [List.take_length] at hK
    refine DW.exit ?_
    refine DW.seq ?_
    refine DW.reg (by simp; rfl) ?_
    refine DW.ret ?_
    simp [Tryz.results85, hK]
theorem markCellS_spec0 (k : Int) : Spec Tryz.prog 85 [.one (.r (.sl 0 [])), ri k] [none] [di k] [.one (.r (.sl 0 [])), ri k] := by
  refine Spec.intro Tryz.func85 rfl rfl Tryz.ntmps85 rfl (by simp) ?_
  refine DW.seq ?_
  refine DW.reg (by simp; rfl) ?_
  refine DW.seq ?_
  refine DW.seq ?_
  refine DW.reg (by simp; rfl) ?_
  refine DW.block ?_
  refine DW.loopS (α := Nat) (fun p => True) (fun p => p) (fun p => [(5, vi 0), (1, vi k)]) (fun p => []) [(0, _)] [] [] 0 (trivial) (by simp; exact rfl) (by simp) (by simp) (by rfl) ?_
  rintro p -
  refine DW.seq ?_
  refine DW.seq ?_
  refine DW.reg (by simp; rfl) ?_
  refine DW.condF (by simp) ?_
  refine DW.exit ?_
  refine DW.seq ?_
  refine DW.reg (by simp; rfl) ?_
  refine DW.ret ?_
  simp [Tryz.results85]
theorem markMemory_spec (a : Memory) (k : Int) (h0 : 0 < k) (h1 : k + (Memory.ctT a : Int) ≤ 1152921504606846976) (h : Row.sz a ≤ 2 ^ 36) : Spec Tryz.prog 22 [maMemory a, ri k] [none] [di (k + (Memory.ctT a : Int))] [maMemory (Memory.mkT a k), ri k] := by
  refine Spec.intro Tryz.func22 rfl rfl Tryz.ntmps22 rfl (by simp) ?_
  have hz := Memory_sz a
  have hT : Memory.ctT a = ctL a.Cells := by simp only [Memory.mkT, Memory.ctT]
  have u0 : 0 < k ∧ k + (ctL a.Cells : Int) ≤ 1152921504606846976 ∧ szL a.Cells ≤ 2 ^ 36 := ⟨by omega, by omega, by omega⟩
  have hTT : k + (Memory.ctT a : Int) = k + (ctL a.Cells : Int) := by omega
  obtain ⟨a_Kept, a_Cells⟩ := a
  simp only at *
  rcases nil_or_pos' a_Cells with ⟨m0, n0, e0, p0, rfl⟩ | ⟨m0, n0, e0, p0, -⟩
  all_goals
    refine DW.ghost (Ghost.empty 0) ?_
    refine DW.seq ?_
    refine DW.regs ?_
    refine RegO.step rfl (OpStep.boxR rfl rfl (by decide) (by simp [m0, n0, e0, p0]; rfl) (by simp [m0, n0, e0, p0]; first | exact ⟨rfl, rfl⟩ | rfl) (by simp) (by simp)) ?_
    refine RegO.opN 1 (by simp; rfl) ?_
    refine RegO.nil ?_
    first
      | refine DW.norm [(1, _), (2, _)] [(0, _), (2, _)] [(1, _)] (by simp [m0, n0, e0, p0]; exact ⟨rfl, rfl⟩) (by simp [m0, n0, e0, p0]; exact ⟨rfl, rfl⟩) (by simp [m0, n0, e0, p0]; rfl) (by rfl) ?_
      | refine DW.norm [(1, _), (2, _)] [(2, _)] [] (by simp [m0, n0, e0, p0]; exact ⟨rfl, rfl⟩) (by simp [m0, n0, e0, p0]; rfl) (by simp [m0, n0, e0, p0]) (by rfl) ?_
    refine DW.seq ?_
    refine DW.regs ?_
    refine RegO.opN 3 (by simp [m0, n0, e0, p0]; rfl) ?_
    first
      | (refine RegO.step rfl (OpStep.callL (io := 0) rfl (by simp [m0, n0, e0, p0]; rfl) (markCellS_spec _ _ u0.1 u0.2.1 u0.2.2) (by rfl) (by rfl) (by rfl) (by rfl) (by simp [lendL, FS.lend, m0, n0, e0, p0]; exact ⟨rfl, rfl⟩) (by simp [apartP]) (by simp) (by simp [m0, n0, e0, p0]; rfl) (by simp [rosOk]) (by simp) (by simp [backFS, hBack, pzsC, pzS, paCells, PC.tree, m0, n0, e0, p0]; rfl)) ?_)
      | refine RegO.step rfl (OpStep.callA rfl (by simp [m0, n0, e0, p0]; exact ⟨rfl, rfl⟩) (by simp [m0, n0, e0, p0]; rfl) (by exact markCellS_spec0 _) (by simp) (by simp [m0, n0, e0, p0]; rfl)) ?_
    refine RegO.opN 1 (by simp [m0, n0, e0, p0]; rfl) ?_
    refine RegO.nil ?_
    first
      | refine DW.norm [(1, _), (2, _)] [(0, _), (2, _)] [(1, _)] (by simp [m0, n0, e0, p0]; exact ⟨rfl, rfl⟩) (by simp [m0, n0, e0, p0]; exact ⟨rfl, rfl⟩) (by simp [m0, n0, e0, p0]; rfl) (by rfl) ?_
      | refine DW.norm [(1, _), (2, _)] [(2, _)] [] (by simp [m0, n0, e0, p0]; exact ⟨rfl, rfl⟩) (by simp [m0, n0, e0, p0]; rfl) (by simp [m0, n0, e0, p0]) (by rfl) ?_
    refine DW.seq ?_
    refine DW.reg (by simp [m0, n0, e0, p0]; rfl) ?_
    try (refine DW.ghost ((Ghost.move (id := 2) (id' := 1001) (p := [1]) (by simp; rfl) (by simp [m0, n0, e0, p0]; first | exact ⟨rfl, rfl, rfl⟩ | rfl) (by simp)).trans (Ghost.plant 1001 0 1 (by simp [m0, n0, e0, p0]; first | exact ⟨rfl, rfl, rfl⟩ | rfl) (by simp; rfl) (by simp))) ?_)
    refine DW.ret ?_
    simp [Tryz.results22, hTT, Memory.mkT, m0, n0, e0, p0]
theorem markStringS_spec (l : List ByteArray) (k : Int) (h0 : 0 < k) (h1 : k + (ctL l : Int) ≤ 1152921504606846976) (h : szL l ≤ 2 ^ 36) : Spec Tryz.prog 111 [.one (.m 1 l.length (rD l)), ri k] [none] [di (k + (ctL l : Int))] [.one (.m 1 l.length (rD (mkL l k))), ri k] := by
  refine Spec.intro Tryz.func111 rfl rfl Tryz.ntmps111 rfl (by simp) ?_
  have hll := szL_len l
  refine DW.seq ?_
  refine DW.reg (by simp; rfl) ?_
  refine DW.seq ?_
  refine DW.seq ?_
  refine DW.reg (by simp; rfl) ?_
  refine DW.block ?_
  refine DW.loopS (α := Nat × Int) (fun p => p.1 ≤ l.length ∧ p.2 = k + (ctL (l.take p.1) : Int)) (fun p => l.length - p.1) (fun p => [(5, vi p.1), (1, vi p.2)]) (fun p => [(0, .hold [.ow () 1 l.length (rD (mkL (l.take p.1) k) ++ rD (l.drop p.1))])]) [(0, _)] [] [(0, .sl 0 [0] 0 l.length)] (0, k) (⟨Nat.zero_le _, by simp⟩) (by simp; exact rfl) (by simp) (by simp) (by rfl) ?_
  rintro ⟨i, K⟩ ⟨hi, hK⟩
  simp only at hi hK ⊢
  refine DW.seq ?_
  refine DW.seq ?_
  refine DW.reg (by simp; rfl) ?_
  refine DW.condB (by simp; exact rfl) (fun hc0 => ?_) (fun hc0 => ?_)
  · have hlt : i < l.length := by simpa using hc0
    have hd := rD_dropc l i hlt
    have hs := szL_at l i hlt
    have hct := ctL_take l i hlt
    have hca := ctL_at l i hlt
    have hm := mkL_take l i k hlt
    replace hm := congrArg rD hm
    rw [rD_append, ← hK] at hm
    have hlt' : (i : Int) < l.length := by omega
    have w1 : IntKind.i64.wrap ((i : Int) + 1) = ((i + 1 : Nat) : Int) := (wr _ (by omega) (by omega)).trans (by omega)
    have hA : (rD (mkL (l.take i) k)).length = i := by rw [rD_len_ByteArray, mkL_len, List.length_take, Nat.min_eq_left (by omega)]; omega
    generalize l[i] = c at hd hs hct hca hm
    have hcc : Row.ct c = 1 := rfl
    have hm' : rD (mkL (l.take (i + 1)) k) = rD (mkL (l.take i) k) ++ [T.sc (.string (mt K))] := hm
    clear hm
    have hm := hm'
    have hd' : rD (l.drop i) = [T.sc (.string c)] ++ rD (l.drop (i + 1)) := hd
    clear hd
    have hd := hd'
    have t0 : 0 < K ∧ K < 4611686018427387904 := ⟨by omega, by omega⟩
    obtain v1 : IntKind.i64.wrap (K + 1) = K + 1 := (wr _ (by omega) (by omega)).trans (by omega)
    refine DW.skip ?_
    refine DW.seq ?_
    refine DW.block ?_
    refine DW.seq ?_
    refine DW.regs ?_
    refine RegO.opN 3 (by simp [hd, hlt', app_get hA, app_get0 hA, app_set hA, app_set0 hA, Nat.add_assoc]; rfl) ?_
    refine RegO.step rfl (OpStep.callA rfl (by simp [hd, hlt', app_get hA, app_get0 hA, app_set hA, app_set0 hA, Nat.add_assoc]; exact ⟨rfl, rfl⟩) (by simp [hd, hlt', app_get hA, app_get0 hA, app_set hA, app_set0 hA, Nat.add_assoc]; rfl) (by exact markText_spec _ t0.1 t0.2) (by simp) (by simp [hd, hlt', app_get hA, app_get0 hA, app_set hA, app_set0 hA, Nat.add_assoc]; rfl)) ?_
    refine RegO.opN 2 (by simp [hd, hlt', app_get hA, app_get0 hA, app_set hA, app_set0 hA, Nat.add_assoc]; rfl) ?_
    refine RegO.nil ?_
    refine DW.reg (by simp [v1]; rfl) ?_
    refine DW.reg (by simp [w1]; rfl) ?_
    clear v1
    exact ⟨(i + 1, K + 1), ⟨hlt, by simp only; omega⟩, by simp only; omega, by simp, by simp [hm, mb], by simp, by rfl⟩
  · have hil : i = l.length := by
      have : ¬ i < l.length := by simpa using hc0
      omega
    subst hil
    rw [List.take_length] at hK
    refine DW.exit ?_
    refine DW.seq ?_
    refine DW.reg (by simp; rfl) ?_
    refine DW.ret ?_
    simp [Tryz.results111, hK]
theorem markStringS_spec0 (k : Int) : Spec Tryz.prog 111 [.one (.r (.sl 0 [])), ri k] [none] [di k] [.one (.r (.sl 0 [])), ri k] := by
  refine Spec.intro Tryz.func111 rfl rfl Tryz.ntmps111 rfl (by simp) ?_
  refine DW.seq ?_
  refine DW.reg (by simp; rfl) ?_
  refine DW.seq ?_
  refine DW.seq ?_
  refine DW.reg (by simp; rfl) ?_
  refine DW.block ?_
  refine DW.loopS (α := Nat) (fun p => True) (fun p => p) (fun p => [(5, vi 0), (1, vi k)]) (fun p => []) [(0, _)] [] [] 0 (trivial) (by simp; exact rfl) (by simp) (by simp) (by rfl) ?_
  rintro p -
  refine DW.seq ?_
  refine DW.seq ?_
  refine DW.reg (by simp; rfl) ?_
  refine DW.condF (by simp) ?_
  refine DW.exit ?_
  refine DW.seq ?_
  refine DW.reg (by simp; rfl) ?_
  refine DW.ret ?_
  simp [Tryz.results111]
theorem markStepS_spec (l : List Step) (k : Int) (h0 : 0 < k) (h1 : k + (ctL l : Int) ≤ 1152921504606846976) (h : szL l ≤ 2 ^ 36) : Spec Tryz.prog 17 [.one (.m 3 l.length (rD l)), ri k] [none] [di (k + (ctL l : Int))] [.one (.m 3 l.length (rD (mkL l k))), ri k] := by
  refine Spec.intro Tryz.func17 rfl rfl Tryz.ntmps17 rfl (by simp) ?_
  have hll := szL_len l
  refine DW.seq ?_
  refine DW.reg (by simp; rfl) ?_
  refine DW.seq ?_
  refine DW.seq ?_
  refine DW.reg (by simp; rfl) ?_
  refine DW.block ?_
  refine DW.loopS (α := Nat × Int) (fun p => p.1 ≤ l.length ∧ p.2 = k + (ctL (l.take p.1) : Int)) (fun p => l.length - p.1) (fun p => [(5, vi p.1), (1, vi p.2)]) (fun p => [(0, .hold [.ow () 3 l.length (rD (mkL (l.take p.1) k) ++ rD (l.drop p.1))])]) [(0, _)] [] [(0, .sl 0 [0] 0 l.length)] (0, k) (⟨Nat.zero_le _, by simp⟩) (by simp; exact rfl) (by simp) (by simp) (by rfl) ?_
  rintro ⟨i, K⟩ ⟨hi, hK⟩
  simp only at hi hK ⊢
  refine DW.seq ?_
  refine DW.seq ?_
  refine DW.reg (by simp; rfl) ?_
  refine DW.condB (by simp; exact rfl) (fun hc0 => ?_) (fun hc0 => ?_)
  · have hlt : i < l.length := by simpa using hc0
    have hd := rD_dropc l i hlt
    have hs := szL_at l i hlt
    have hct := ctL_take l i hlt
    have hca := ctL_at l i hlt
    have hm := mkL_take l i k hlt
    replace hm := congrArg rD hm
    rw [rD_append, ← hK] at hm
    have hlt' : (i : Int) < l.length := by omega
    have w1 : IntKind.i64.wrap ((i : Int) + 1) = ((i + 1 : Nat) : Int) := (wr _ (by omega) (by omega)).trans (by omega)
    have hA : (rD (mkL (l.take i) k)).length = i * 3 := by rw [rD_len_Step, mkL_len, List.length_take, Nat.min_eq_left (by omega)]
    generalize l[i] = c at hd hs hct hca hm
    have hcc := Step_ct c
    have hcs := Step_sz c
    rw [Step_mk] at hm
    replace hm : rD (mkL (l.take (i + 1)) k) = rD (mkL (l.take i) k) ++ Step.d _ := hm.trans (by simp only [rD, List.flatMap_cons, List.flatMap_nil, List.append_nil]; rfl)
    replace hd : rD (l.drop i) = Step.d c ++ rD (l.drop (i + 1)) := hd
    have t0 : 0 < K ∧ K < 4611686018427387904 := ⟨by omega, by omega⟩
    have t1 : 0 < K + 1 ∧ K + 1 < 4611686018427387904 := ⟨by omega, by omega⟩
    have t2 : 0 < K + 2 ∧ K + 2 < 4611686018427387904 := ⟨by omega, by omega⟩
    obtain ⟨v1, v2, v3⟩ : IntKind.i64.wrap (K + 1) = K + 1 ∧ IntKind.i64.wrap (K + 1 + 1) = K + 2 ∧ IntKind.i64.wrap (K + 2 + 1) = K + 3 := ⟨(wr _ (by omega) (by omega)).trans (by omega), (wr _ (by omega) (by omega)).trans (by omega), (wr _ (by omega) (by omega)).trans (by omega)⟩
    refine DW.skip ?_
    refine DW.seq ?_
    refine DW.block ?_
    refine DW.seq ?_
    refine DW.reg (by simp [hd, hlt', app_get hA, app_get0 hA, app_set hA, app_set0 hA, Nat.add_assoc]; rfl) ?_
    refine DW.seq ?_
    refine DW.reg (by simp [v1]; rfl) ?_
    refine DW.seq ?_
    refine DW.reg (by simp [hd, hlt', app_get hA, app_get0 hA, app_set hA, app_set0 hA, Nat.add_assoc]; rfl) ?_
    refine DW.seq ?_
    refine DW.reg (by simp [v2]; rfl) ?_
    refine DW.seq ?_
    refine DW.regs ?_
    refine RegO.opN 3 (by simp [hd, hlt', app_get hA, app_get0 hA, app_set hA, app_set0 hA, Nat.add_assoc]; rfl) ?_
    refine RegO.step rfl (OpStep.callA rfl (by simp [hd, hlt', app_get hA, app_get0 hA, app_set hA, app_set0 hA, Nat.add_assoc]; exact ⟨rfl, rfl⟩) (by simp [hd, hlt', app_get hA, app_get0 hA, app_set hA, app_set0 hA, Nat.add_assoc]; rfl) (by exact markText_spec _ t2.1 t2.2) (by simp) (by simp [hd, hlt', app_get hA, app_get0 hA, app_set hA, app_set0 hA, Nat.add_assoc]; rfl)) ?_
    refine RegO.opN 3 (by simp [hd, hlt', app_get hA, app_get0 hA, app_set hA, app_set0 hA, Nat.add_assoc]; rfl) ?_
    refine RegO.nil ?_
    refine DW.reg (by simp [v3]; rfl) ?_
    refine DW.reg (by simp [w1]; rfl) ?_
    clear v1 v2 v3
    exact ⟨(i + 1, K + 3), ⟨hlt, by simp only; omega⟩, by simp only; omega, by simp, by simp [hm, mb], by simp, by rfl⟩
  · have hil : i = l.length := by
      have : ¬ i < l.length := by simpa using hc0
      omega
    subst hil
    rw [List.take_length] at hK
    refine DW.exit ?_
    refine DW.seq ?_
    refine DW.reg (by simp; rfl) ?_
    refine DW.ret ?_
    simp [Tryz.results17, hK]
theorem markStepS_spec0 (k : Int) : Spec Tryz.prog 17 [.one (.r (.sl 0 [])), ri k] [none] [di k] [.one (.r (.sl 0 [])), ri k] := by
  refine Spec.intro Tryz.func17 rfl rfl Tryz.ntmps17 rfl (by simp) ?_
  refine DW.seq ?_
  refine DW.reg (by simp; rfl) ?_
  refine DW.seq ?_
  refine DW.seq ?_
  refine DW.reg (by simp; rfl) ?_
  refine DW.block ?_
  refine DW.loopS (α := Nat) (fun p => True) (fun p => p) (fun p => [(5, vi 0), (1, vi k)]) (fun p => []) [(0, _)] [] [] 0 (trivial) (by simp; exact rfl) (by simp) (by simp) (by rfl) ?_
  rintro p -
  refine DW.seq ?_
  refine DW.seq ?_
  refine DW.reg (by simp; rfl) ?_
  refine DW.condF (by simp) ?_
  refine DW.exit ?_
  refine DW.seq ?_
  refine DW.reg (by simp; rfl) ?_
  refine DW.ret ?_
  simp [Tryz.results17]
theorem markSealingS_spec (l : List Sealing) (k : Int) (h0 : 0 < k) (h1 : k + (ctL l : Int) ≤ 1152921504606846976) (h : szL l ≤ 2 ^ 36) : Spec Tryz.prog 91 [.one (.m 3 l.length (rD l)), ri k] [none] [di (k + (ctL l : Int))] [.one (.m 3 l.length (rD (mkL l k))), ri k] := by
  refine Spec.intro Tryz.func91 rfl rfl Tryz.ntmps91 rfl (by simp) ?_
  have hll := szL_len l
  refine DW.seq ?_
  refine DW.reg (by simp; rfl) ?_
  refine DW.seq ?_
  refine DW.seq ?_
  refine DW.reg (by simp; rfl) ?_
  refine DW.block ?_
  refine DW.loopS (α := Nat × Int) (fun p => p.1 ≤ l.length ∧ p.2 = k + (ctL (l.take p.1) : Int)) (fun p => l.length - p.1) (fun p => [(5, vi p.1), (1, vi p.2)]) (fun p => [(0, .hold [.ow () 3 l.length (rD (mkL (l.take p.1) k) ++ rD (l.drop p.1))])]) [(0, _)] [] [(0, .sl 0 [0] 0 l.length)] (0, k) (⟨Nat.zero_le _, by simp⟩) (by simp; exact rfl) (by simp) (by simp) (by rfl) ?_
  rintro ⟨i, K⟩ ⟨hi, hK⟩
  simp only at hi hK ⊢
  refine DW.seq ?_
  refine DW.seq ?_
  refine DW.reg (by simp; rfl) ?_
  refine DW.condB (by simp; exact rfl) (fun hc0 => ?_) (fun hc0 => ?_)
  · have hlt : i < l.length := by simpa using hc0
    have hd := rD_dropc l i hlt
    have hs := szL_at l i hlt
    have hct := ctL_take l i hlt
    have hca := ctL_at l i hlt
    have hm := mkL_take l i k hlt
    replace hm := congrArg rD hm
    rw [rD_append, ← hK] at hm
    have hlt' : (i : Int) < l.length := by omega
    have w1 : IntKind.i64.wrap ((i : Int) + 1) = ((i + 1 : Nat) : Int) := (wr _ (by omega) (by omega)).trans (by omega)
    have hA : (rD (mkL (l.take i) k)).length = i * 3 := by rw [rD_len_Sealing, mkL_len, List.length_take, Nat.min_eq_left (by omega)]
    generalize l[i] = c at hd hs hct hca hm
    have hcc := Sealing_ct c
    have hcs := Sealing_sz c
    rw [Sealing_mk] at hm
    replace hm : rD (mkL (l.take (i + 1)) k) = rD (mkL (l.take i) k) ++ Sealing.d _ := hm.trans (by simp only [rD, List.flatMap_cons, List.flatMap_nil, List.append_nil]; rfl)
    replace hd : rD (l.drop i) = Sealing.d c ++ rD (l.drop (i + 1)) := hd
    have t0 : 0 < K ∧ K < 4611686018427387904 := ⟨by omega, by omega⟩
    have t1 : 0 < K + 1 ∧ K + 1 < 4611686018427387904 := ⟨by omega, by omega⟩
    have t2 : 0 < K + 2 ∧ K + 2 < 4611686018427387904 := ⟨by omega, by omega⟩
    obtain ⟨v1, v2, v3⟩ : IntKind.i64.wrap (K + 1) = K + 1 ∧ IntKind.i64.wrap (K + 1 + 1) = K + 2 ∧ IntKind.i64.wrap (K + 2 + 1) = K + 3 := ⟨(wr _ (by omega) (by omega)).trans (by omega), (wr _ (by omega) (by omega)).trans (by omega), (wr _ (by omega) (by omega)).trans (by omega)⟩
    refine DW.skip ?_
    refine DW.seq ?_
    refine DW.block ?_
    refine DW.seq ?_
    refine DW.regs ?_
    refine RegO.opN 3 (by simp [hd, hlt', app_get hA, app_get0 hA, app_set hA, app_set0 hA, Nat.add_assoc]; rfl) ?_
    refine RegO.step rfl (OpStep.callA rfl (by simp [hd, hlt', app_get hA, app_get0 hA, app_set hA, app_set0 hA, Nat.add_assoc]; exact ⟨rfl, rfl⟩) (by simp [hd, hlt', app_get hA, app_get0 hA, app_set hA, app_set0 hA, Nat.add_assoc]; rfl) (by exact markText_spec _ t0.1 t0.2) (by simp) (by simp [hd, hlt', app_get hA, app_get0 hA, app_set hA, app_set0 hA, Nat.add_assoc]; rfl)) ?_
    refine RegO.opN 3 (by simp [hd, hlt', app_get hA, app_get0 hA, app_set hA, app_set0 hA, Nat.add_assoc]; rfl) ?_
    refine RegO.nil ?_
    refine DW.seq ?_
    refine DW.reg (by simp [v1]; rfl) ?_
    refine DW.seq ?_
    refine DW.regs ?_
    refine RegO.opN 3 (by simp [hd, hlt', app_get hA, app_get0 hA, app_set hA, app_set0 hA, Nat.add_assoc]; rfl) ?_
    refine RegO.step rfl (OpStep.callA rfl (by simp [hd, hlt', app_get hA, app_get0 hA, app_set hA, app_set0 hA, Nat.add_assoc]; exact ⟨rfl, rfl⟩) (by simp [hd, hlt', app_get hA, app_get0 hA, app_set hA, app_set0 hA, Nat.add_assoc]; rfl) (by exact markText_spec _ t1.1 t1.2) (by simp) (by simp [hd, hlt', app_get hA, app_get0 hA, app_set hA, app_set0 hA, Nat.add_assoc]; rfl)) ?_
    refine RegO.opN 3 (by simp [hd, hlt', app_get hA, app_get0 hA, app_set hA, app_set0 hA, Nat.add_assoc]; rfl) ?_
    refine RegO.nil ?_
    refine DW.seq ?_
    refine DW.reg (by simp [v2]; rfl) ?_
    refine DW.seq ?_
    refine DW.regs ?_
    refine RegO.opN 3 (by simp [hd, hlt', app_get hA, app_get0 hA, app_set hA, app_set0 hA, Nat.add_assoc]; rfl) ?_
    refine RegO.step rfl (OpStep.callA rfl (by simp [hd, hlt', app_get hA, app_get0 hA, app_set hA, app_set0 hA, Nat.add_assoc]; exact ⟨rfl, rfl⟩) (by simp [hd, hlt', app_get hA, app_get0 hA, app_set hA, app_set0 hA, Nat.add_assoc]; rfl) (by exact markText_spec _ t2.1 t2.2) (by simp) (by simp [hd, hlt', app_get hA, app_get0 hA, app_set hA, app_set0 hA, Nat.add_assoc]; rfl)) ?_
    refine RegO.opN 3 (by simp [hd, hlt', app_get hA, app_get0 hA, app_set hA, app_set0 hA, Nat.add_assoc]; rfl) ?_
    refine RegO.nil ?_
    refine DW.reg (by simp [v3]; rfl) ?_
    refine DW.reg (by simp [w1]; rfl) ?_
    clear v1 v2 v3
    exact ⟨(i + 1, K + 3), ⟨hlt, by simp only; omega⟩, by simp only; omega, by simp, by simp [hm, mb], by simp, by rfl⟩
  · have hil : i = l.length := by
      have : ¬ i < l.length := by simpa using hc0
      omega
    subst hil
    rw [List.take_length] at hK
    refine DW.exit ?_
    refine DW.seq ?_
    refine DW.reg (by simp; rfl) ?_
    refine DW.ret ?_
    simp [Tryz.results91, hK]
theorem markSealingS_spec0 (k : Int) : Spec Tryz.prog 91 [.one (.r (.sl 0 [])), ri k] [none] [di k] [.one (.r (.sl 0 [])), ri k] := by
  refine Spec.intro Tryz.func91 rfl rfl Tryz.ntmps91 rfl (by simp) ?_
  refine DW.seq ?_
  refine DW.reg (by simp; rfl) ?_
  refine DW.seq ?_
  refine DW.seq ?_
  refine DW.reg (by simp; rfl) ?_
  refine DW.block ?_
  refine DW.loopS (α := Nat) (fun p => True) (fun p => p) (fun p => [(5, vi 0), (1, vi k)]) (fun p => []) [(0, _)] [] [] 0 (trivial) (by simp; exact rfl) (by simp) (by simp) (by rfl) ?_
  rintro p -
  refine DW.seq ?_
  refine DW.seq ?_
  refine DW.reg (by simp; rfl) ?_
  refine DW.condF (by simp) ?_
  refine DW.exit ?_
  refine DW.seq ?_
  refine DW.reg (by simp; rfl) ?_
  refine DW.ret ?_
  simp [Tryz.results91]
theorem markJobS_spec (l : List Job) (k : Int) (h0 : 0 < k) (h1 : k + (ctL l : Int) ≤ 1152921504606846976) (h : szL l ≤ 2 ^ 36) : Spec Tryz.prog 90 [.one (.m 16 l.length (rD l)), ri k] [none] [di (k + (ctL l : Int))] [.one (.m 16 l.length (rD (mkL l k))), ri k] := by
  refine Spec.intro Tryz.func90 rfl rfl Tryz.ntmps90 rfl (by simp) ?_
  have hll := szL_len l
  refine DW.seq ?_
  refine DW.reg (by simp; rfl) ?_
  refine DW.seq ?_
  refine DW.seq ?_
  refine DW.reg (by simp; rfl) ?_
  refine DW.block ?_
  refine DW.loopS (α := Nat × Int) (fun p => p.1 ≤ l.length ∧ p.2 = k + (ctL (l.take p.1) : Int)) (fun p => l.length - p.1) (fun p => [(5, vi p.1), (1, vi p.2)]) (fun p => [(0, .hold [.ow () 16 l.length (rD (mkL (l.take p.1) k) ++ rD (l.drop p.1))])]) [(0, _)] [] [(0, .sl 0 [0] 0 l.length)] (0, k) (⟨Nat.zero_le _, by simp⟩) (by simp; exact rfl) (by simp) (by simp) (by rfl) ?_
  rintro ⟨i, K⟩ ⟨hi, hK⟩
  simp only at hi hK ⊢
  refine DW.seq ?_
  refine DW.seq ?_
  refine DW.reg (by simp; rfl) ?_
  refine DW.condB (by simp; exact rfl) (fun hc0 => ?_) (fun hc0 => ?_)
  · have hlt : i < l.length := by simpa using hc0
    have hd := rD_dropc l i hlt
    have hs := szL_at l i hlt
    have hct := ctL_take l i hlt
    have hca := ctL_at l i hlt
    have hm := mkL_take l i k hlt
    replace hm := congrArg rD hm
    rw [rD_append, ← hK] at hm
    have hlt' : (i : Int) < l.length := by omega
    have w1 : IntKind.i64.wrap ((i : Int) + 1) = ((i + 1 : Nat) : Int) := (wr _ (by omega) (by omega)).trans (by omega)
    have hA : (rD (mkL (l.take i) k)).length = i * 16 := by rw [rD_len_Job, mkL_len, List.length_take, Nat.min_eq_left (by omega)]
    generalize l[i] = c at hd hs hct hca hm
    have hcc := Job_ct c
    have hcs := Job_sz c
    rw [Job_mk] at hm
    replace hm : rD (mkL (l.take (i + 1)) k) = rD (mkL (l.take i) k) ++ Job.d _ := hm.trans (by simp only [rD, List.flatMap_cons, List.flatMap_nil, List.append_nil]; rfl)
    replace hd : rD (l.drop i) = Job.d c ++ rD (l.drop (i + 1)) := hd
    have hn0 := Ask_sz c.Ask
    have hn1 := Result_sz c.Result
    have t0 : 0 < K ∧ K < 4611686018427387904 := ⟨by omega, by omega⟩
    have t1 : 0 < K + 1 ∧ K + 1 < 4611686018427387904 := ⟨by omega, by omega⟩
    have t2 : 0 < K + 2 ∧ K + 2 < 4611686018427387904 := ⟨by omega, by omega⟩
    have t3 : 0 < K + 3 ∧ K + 3 < 4611686018427387904 := ⟨by omega, by omega⟩
    have t4 : 0 < K + 4 ∧ K + 4 < 4611686018427387904 := ⟨by omega, by omega⟩
    have t5 : 0 < K + 5 ∧ K + 5 < 4611686018427387904 := ⟨by omega, by omega⟩
    have t6 : 0 < K + 6 ∧ K + 6 < 4611686018427387904 := ⟨by omega, by omega⟩
    have t7 : 0 < K + 7 ∧ K + 7 < 4611686018427387904 := ⟨by omega, by omega⟩
    have t8 : 0 < K + 8 ∧ K + 8 < 4611686018427387904 := ⟨by omega, by omega⟩
    have t9 : 0 < K + 9 ∧ K + 9 < 4611686018427387904 := ⟨by omega, by omega⟩
    have u1 : 0 < K + 10 ∧ K + 10 + (ctL c.Result.Names : Int) ≤ 1152921504606846976 ∧ szL c.Result.Names ≤ 2 ^ 36 ∧ ¬ (K + 10 + (ctL c.Result.Names : Int) < 0) := ⟨by omega, by omega, by omega, by omega⟩
    have u2 : 0 < K + 10 + (ctL c.Result.Names : Int) ∧ K + 10 + (ctL c.Result.Names : Int) + (ctL c.Steps : Int) ≤ 1152921504606846976 ∧ szL c.Steps ≤ 2 ^ 36 ∧ ¬ (K + 10 + (ctL c.Result.Names : Int) + (ctL c.Steps : Int) < 0) := ⟨by omega, by omega, by omega, by omega⟩
    have u3 : 0 < K + 10 + (ctL c.Result.Names : Int) + (ctL c.Steps : Int) ∧ K + 10 + (ctL c.Result.Names : Int) + (ctL c.Steps : Int) + (ctL c.Seals : Int) ≤ 1152921504606846976 ∧ szL c.Seals ≤ 2 ^ 36 ∧ ¬ (K + 10 + (ctL c.Result.Names : Int) + (ctL c.Steps : Int) + (ctL c.Seals : Int) < 0) := ⟨by omega, by omega, by omega, by omega⟩
    have t10 : 0 < K + 10 + (ctL c.Result.Names : Int) + (ctL c.Steps : Int) + (ctL c.Seals : Int) ∧ K + 10 + (ctL c.Result.Names : Int) + (ctL c.Steps : Int) + (ctL c.Seals : Int) < 4611686018427387904 := ⟨by omega, by omega⟩
    have t11 : 0 < K + 11 + (ctL c.Result.Names : Int) + (ctL c.Steps : Int) + (ctL c.Seals : Int) ∧ K + 11 + (ctL c.Result.Names : Int) + (ctL c.Steps : Int) + (ctL c.Seals : Int) < 4611686018427387904 := ⟨by omega, by omega⟩
    have t12 : 0 < K + 12 + (ctL c.Result.Names : Int) + (ctL c.Steps : Int) + (ctL c.Seals : Int) ∧ K + 12 + (ctL c.Result.Names : Int) + (ctL c.Steps : Int) + (ctL c.Seals : Int) < 4611686018427387904 := ⟨by omega, by omega⟩
    obtain ⟨v1, v2, v3, v4, v5, v6, v7, v8, v9, v10, v11, v12, v13⟩ : IntKind.i64.wrap (K + 1) = K + 1 ∧ IntKind.i64.wrap (K + 1 + 1) = K + 2 ∧ IntKind.i64.wrap (K + 2 + 1) = K + 3 ∧ IntKind.i64.wrap (K + 3 + 1) = K + 4 ∧ IntKind.i64.wrap (K + 4 + 1) = K + 5 ∧ IntKind.i64.wrap (K + 5 + 1) = K + 6 ∧ IntKind.i64.wrap (K + 6 + 1) = K + 7 ∧ IntKind.i64.wrap (K + 7 + 1) = K + 8 ∧ IntKind.i64.wrap (K + 8 + 1) = K + 9 ∧ IntKind.i64.wrap (K + 9 + 1) = K + 10 ∧ IntKind.i64.wrap (K + 10 + (ctL c.Result.Names : Int) + (ctL c.Steps : Int) + (ctL c.Seals : Int) + 1) = K + 11 + (ctL c.Result.Names : Int) + (ctL c.Steps : Int) + (ctL c.Seals : Int) ∧ IntKind.i64.wrap (K + 11 + (ctL c.Result.Names : Int) + (ctL c.Steps : Int) + (ctL c.Seals : Int) + 1) = K + 12 + (ctL c.Result.Names : Int) + (ctL c.Steps : Int) + (ctL c.Seals : Int) ∧ IntKind.i64.wrap (K + 12 + (ctL c.Result.Names : Int) + (ctL c.Steps : Int) + (ctL c.Seals : Int) + 1) = K + 13 + (ctL c.Result.Names : Int) + (ctL c.Steps : Int) + (ctL c.Seals : Int) := ⟨(wr _ (by omega) (by omega)).trans (by omega), (wr _ (by omega) (by omega)).trans (by omega), (wr _ (by omega) (by omega)).trans (by omega), (wr _ (by omega) (by omega)).trans (by omega), (wr _ (by omega) (by omega)).trans (by omega), (wr _ (by omega) (by omega)).trans (by omega), (wr _ (by omega) (by omega)).trans (by omega), (wr _ (by omega) (by omega)).trans (by omega), (wr _ (by omega) (by omega)).trans (by omega), (wr _ (by omega) (by omega)).trans (by omega), (wr _ (by omega) (by omega)).trans (by omega), (wr _ (by omega) (by omega)).trans (by omega), (wr _ (by omega) (by omega)).trans (by omega)⟩
    refine DW.skip ?_
    refine DW.seq ?_
    refine DW.block ?_
    refine DW.seq ?_
    refine DW.reg (by simp [hd, hlt', app_get hA, app_get0 hA, app_set hA, app_set0 hA, Nat.add_assoc]; rfl) ?_
    refine DW.seq ?_
    refine DW.reg (by simp [v1]; rfl) ?_
    refine DW.norm [(0, _), (5, _), (1, _)] [(0, _)] [(0, _)] (by simp; exact ⟨rfl, rfl, rfl⟩) (by simp; rfl) (by simp; rfl) (by rfl) ?_
    refine DW.seq ?_
    refine DW.regs ?_
    refine RegO.opN 3 (by simp [hd, hlt', app_get hA, app_get0 hA, app_set hA, app_set0 hA, Nat.add_assoc]; rfl) ?_
    refine RegO.step rfl (OpStep.callA rfl (by simp [hd, hlt', app_get hA, app_get0 hA, app_set hA, app_set0 hA, Nat.add_assoc]; exact ⟨rfl, rfl⟩) (by simp [hd, hlt', app_get hA, app_get0 hA, app_set hA, app_set0 hA, Nat.add_assoc]; rfl) (by exact markText_spec _ t1.1 t1.2) (by simp) (by simp [hd, hlt', app_get hA, app_get0 hA, app_set hA, app_set0 hA, Nat.add_assoc]; rfl)) ?_
    refine RegO.opN 4 (by simp [hd, hlt', app_get hA, app_get0 hA, app_set hA, app_set0 hA, Nat.add_assoc]; rfl) ?_
    refine RegO.nil ?_
    refine DW.seq ?_
    refine DW.reg (by simp [v2]; rfl) ?_
    refine DW.norm [(0, _), (5, _), (1, _)] [(0, _)] [(0, _)] (by simp; exact ⟨rfl, rfl, rfl⟩) (by simp; rfl) (by simp; rfl) (by rfl) ?_
    refine DW.seq ?_
    refine DW.regs ?_
    refine RegO.opN 3 (by simp [hd, hlt', app_get hA, app_get0 hA, app_set hA, app_set0 hA, Nat.add_assoc]; rfl) ?_
    refine RegO.step rfl (OpStep.callA rfl (by simp [hd, hlt', app_get hA, app_get0 hA, app_set hA, app_set0 hA, Nat.add_assoc]; exact ⟨rfl, rfl⟩) (by simp [hd, hlt', app_get hA, app_get0 hA, app_set hA, app_set0 hA, Nat.add_assoc]; rfl) (by exact markText_spec _ t2.1 t2.2) (by simp) (by simp [hd, hlt', app_get hA, app_get0 hA, app_set hA, app_set0 hA, Nat.add_assoc]; rfl)) ?_
    refine RegO.opN 4 (by simp [hd, hlt', app_get hA, app_get0 hA, app_set hA, app_set0 hA, Nat.add_assoc]; rfl) ?_
    refine RegO.nil ?_
    refine DW.seq ?_
    refine DW.reg (by simp [v3]; rfl) ?_
    refine DW.norm [(0, _), (5, _), (1, _)] [(0, _)] [(0, _)] (by simp; exact ⟨rfl, rfl, rfl⟩) (by simp; rfl) (by simp; rfl) (by rfl) ?_
    refine DW.seq ?_
    refine DW.reg (by simp [hd, hlt', app_get hA, app_get0 hA, app_set hA, app_set0 hA, Nat.add_assoc]; rfl) ?_
    refine DW.seq ?_
    refine DW.reg (by simp [v4]; rfl) ?_
    refine DW.norm [(0, _), (5, _), (1, _)] [(0, _)] [(0, _)] (by simp; exact ⟨rfl, rfl, rfl⟩) (by simp; rfl) (by simp; rfl) (by rfl) ?_
    refine DW.seq ?_
    refine DW.reg (by simp [hd, hlt', app_get hA, app_get0 hA, app_set hA, app_set0 hA, Nat.add_assoc]; rfl) ?_
    refine DW.seq ?_
    refine DW.reg (by simp [v5]; rfl) ?_
    refine DW.norm [(0, _), (5, _), (1, _)] [(0, _)] [(0, _)] (by simp; exact ⟨rfl, rfl, rfl⟩) (by simp; rfl) (by simp; rfl) (by rfl) ?_
    refine DW.seq ?_
    refine DW.regs ?_
    refine RegO.opN 3 (by simp [hd, hlt', app_get hA, app_get0 hA, app_set hA, app_set0 hA, Nat.add_assoc]; rfl) ?_
    refine RegO.step rfl (OpStep.callA rfl (by simp [hd, hlt', app_get hA, app_get0 hA, app_set hA, app_set0 hA, Nat.add_assoc]; exact ⟨rfl, rfl⟩) (by simp [hd, hlt', app_get hA, app_get0 hA, app_set hA, app_set0 hA, Nat.add_assoc]; rfl) (by exact markText_spec _ t5.1 t5.2) (by simp) (by simp [hd, hlt', app_get hA, app_get0 hA, app_set hA, app_set0 hA, Nat.add_assoc]; rfl)) ?_
    refine RegO.opN 4 (by simp [hd, hlt', app_get hA, app_get0 hA, app_set hA, app_set0 hA, Nat.add_assoc]; rfl) ?_
    refine RegO.nil ?_
    refine DW.seq ?_
    refine DW.reg (by simp [v6]; rfl) ?_
    refine DW.norm [(0, _), (5, _), (1, _)] [(0, _)] [(0, _)] (by simp; exact ⟨rfl, rfl, rfl⟩) (by simp; rfl) (by simp; rfl) (by rfl) ?_
    refine DW.seq ?_
    refine DW.reg (by simp [hd, hlt', app_get hA, app_get0 hA, app_set hA, app_set0 hA, Nat.add_assoc]; rfl) ?_
    refine DW.seq ?_
    refine DW.reg (by simp [v7]; rfl) ?_
    refine DW.norm [(0, _), (5, _), (1, _)] [(0, _)] [(0, _)] (by simp; exact ⟨rfl, rfl, rfl⟩) (by simp; rfl) (by simp; rfl) (by rfl) ?_
    refine DW.seq ?_
    refine DW.regs ?_
    refine RegO.opN 3 (by simp [hd, hlt', app_get hA, app_get0 hA, app_set hA, app_set0 hA, Nat.add_assoc]; rfl) ?_
    refine RegO.step rfl (OpStep.callA rfl (by simp [hd, hlt', app_get hA, app_get0 hA, app_set hA, app_set0 hA, Nat.add_assoc]; exact ⟨rfl, rfl⟩) (by simp [hd, hlt', app_get hA, app_get0 hA, app_set hA, app_set0 hA, Nat.add_assoc]; rfl) (by exact markText_spec _ t7.1 t7.2) (by simp) (by simp [hd, hlt', app_get hA, app_get0 hA, app_set hA, app_set0 hA, Nat.add_assoc]; rfl)) ?_
    refine RegO.opN 4 (by simp [hd, hlt', app_get hA, app_get0 hA, app_set hA, app_set0 hA, Nat.add_assoc]; rfl) ?_
    refine RegO.nil ?_
    refine DW.seq ?_
    refine DW.reg (by simp [v8]; rfl) ?_
    refine DW.norm [(0, _), (5, _), (1, _)] [(0, _)] [(0, _)] (by simp; exact ⟨rfl, rfl, rfl⟩) (by simp; rfl) (by simp; rfl) (by rfl) ?_
    refine DW.seq ?_
    refine DW.reg (by simp [hd, hlt', app_get hA, app_get0 hA, app_set hA, app_set0 hA, Nat.add_assoc]; rfl) ?_
    refine DW.seq ?_
    refine DW.reg (by simp [v9]; rfl) ?_
    refine DW.norm [(0, _), (5, _), (1, _)] [(0, _)] [(0, _)] (by simp; exact ⟨rfl, rfl, rfl⟩) (by simp; rfl) (by simp; rfl) (by rfl) ?_
    refine DW.seq ?_
    refine DW.reg (by simp [hd, hlt', app_get hA, app_get0 hA, app_set hA, app_set0 hA, Nat.add_assoc]; rfl) ?_
    refine DW.seq ?_
    refine DW.reg (by simp [v10]; rfl) ?_
    refine DW.norm [(0, _), (5, _), (1, _)] [(0, _)] [(0, _)] (by simp; exact ⟨rfl, rfl, rfl⟩) (by simp; rfl) (by simp; rfl) (by rfl) ?_
    refine DW.seq ?_
    refine DW.regs ?_
    refine RegO.opN 7 (by simp [hd, hlt', app_get hA, app_get0 hA, app_set hA, app_set0 hA, Nat.add_assoc]; rfl) ?_
    refine RegO.step rfl (OpStep.callL (io := 0) rfl (by simp [hd, hlt', app_get hA, app_get0 hA, app_set hA, app_set0 hA, Nat.add_assoc]; rfl) (markStringS_spec c.Result.Names (K + 10) u1.1 u1.2.1 u1.2.2.1) (by rfl) (by rfl) (by rfl) (by rfl) (by simp [lendL, FS.lend, hd, hlt', app_get hA, app_get0 hA, app_set hA, app_set0 hA, Nat.add_assoc]; exact ⟨rfl, rfl⟩) (by simp [apartP]) (by simp) (by simp [hd, hlt', app_get hA, app_get0 hA, app_set hA, app_set0 hA, Nat.add_assoc]; rfl) (by simp [rosOk]) (by simp) (by simp [backFS, hBack, pzsC, pzS, paCells, PC.tree, hd, hlt', app_get hA, app_get0 hA, app_set hA, app_set0 hA, Nat.add_assoc]; rfl)) ?_
    refine RegO.opN 1 (by simp [hd, hlt', app_get hA, app_get0 hA, app_set hA, app_set0 hA, Nat.add_assoc]; rfl) ?_
    refine RegO.nil ?_
    refine DW.seq ?_
    refine DW.regs ?_
    refine RegO.opN 6 (by simp [hd, hlt', app_get hA, app_get0 hA, app_set hA, app_set0 hA, Nat.add_assoc]; rfl) ?_
    refine RegO.step rfl (OpStep.callL (io := 0) rfl (by simp [hd, hlt', app_get hA, app_get0 hA, app_set hA, app_set0 hA, Nat.add_assoc]; rfl) (markStepS_spec c.Steps (K + 10 + (ctL c.Result.Names : Int)) u2.1 u2.2.1 u2.2.2.1) (by rfl) (by rfl) (by rfl) (by rfl) (by simp [lendL, FS.lend, hd, hlt', app_get hA, app_get0 hA, app_set hA, app_set0 hA, Nat.add_assoc]; exact ⟨rfl, rfl⟩) (by simp [apartP]) (by simp) (by simp [hd, hlt', app_get hA, app_get0 hA, app_set hA, app_set0 hA, Nat.add_assoc]; rfl) (by simp [rosOk]) (by simp) (by simp [backFS, hBack, pzsC, pzS, paCells, PC.tree, hd, hlt', app_get hA, app_get0 hA, app_set hA, app_set0 hA, Nat.add_assoc]; rfl)) ?_
    refine RegO.opN 1 (by simp [hd, hlt', app_get hA, app_get0 hA, app_set hA, app_set0 hA, Nat.add_assoc]; rfl) ?_
    refine RegO.nil ?_
    refine DW.seq ?_
    refine DW.regs ?_
    refine RegO.opN 6 (by simp [hd, hlt', app_get hA, app_get0 hA, app_set hA, app_set0 hA, Nat.add_assoc]; rfl) ?_
    refine RegO.step rfl (OpStep.callL (io := 0) rfl (by simp [hd, hlt', app_get hA, app_get0 hA, app_set hA, app_set0 hA, Nat.add_assoc]; rfl) (markSealingS_spec c.Seals (K + 10 + (ctL c.Result.Names : Int) + (ctL c.Steps : Int)) u3.1 u3.2.1 u3.2.2.1) (by rfl) (by rfl) (by rfl) (by rfl) (by simp [lendL, FS.lend, hd, hlt', app_get hA, app_get0 hA, app_set hA, app_set0 hA, Nat.add_assoc]; exact ⟨rfl, rfl⟩) (by simp [apartP]) (by simp) (by simp [hd, hlt', app_get hA, app_get0 hA, app_set hA, app_set0 hA, Nat.add_assoc]; rfl) (by simp [rosOk]) (by simp) (by simp [backFS, hBack, pzsC, pzS, paCells, PC.tree, hd, hlt', app_get hA, app_get0 hA, app_set hA, app_set0 hA, Nat.add_assoc]; rfl)) ?_
    refine RegO.opN 1 (by simp [hd, hlt', app_get hA, app_get0 hA, app_set hA, app_set0 hA, Nat.add_assoc]; rfl) ?_
    refine RegO.nil ?_
    refine DW.seq ?_
    refine DW.reg (by simp [hd, hlt', app_get hA, app_get0 hA, app_set hA, app_set0 hA, Nat.add_assoc]; rfl) ?_
    refine DW.seq ?_
    refine DW.reg (by simp [v11]; rfl) ?_
    refine DW.norm [(0, _), (5, _), (1, _)] [(0, _)] [(0, _)] (by simp; exact ⟨rfl, rfl, rfl⟩) (by simp; rfl) (by simp; rfl) (by rfl) ?_
    refine DW.seq ?_
    refine DW.reg (by simp [hd, hlt', app_get hA, app_get0 hA, app_set hA, app_set0 hA, Nat.add_assoc]; rfl) ?_
    refine DW.seq ?_
    refine DW.reg (by simp [v12]; rfl) ?_
    refine DW.norm [(0, _), (5, _), (1, _)] [(0, _)] [(0, _)] (by simp; exact ⟨rfl, rfl, rfl⟩) (by simp; rfl) (by simp; rfl) (by rfl) ?_
    refine DW.seq ?_
    refine DW.reg (by simp [hd, hlt', app_get hA, app_get0 hA, app_set hA, app_set0 hA, Nat.add_assoc]; rfl) ?_
    refine DW.reg (by simp [v13]; rfl) ?_
    refine DW.norm [(0, _), (5, _), (1, _)] [(0, _)] [(0, _)] (by simp; exact ⟨rfl, rfl, rfl⟩) (by simp; rfl) (by simp; rfl) (by rfl) ?_
    refine DW.reg (by simp [w1]; rfl) ?_
    clear v1 v2 v3 v4 v5 v6 v7 v8 v9 v10 v11 v12 v13
    exact ⟨(i + 1, K + 13 + (ctL c.Result.Names : Int) + (ctL c.Steps : Int) + (ctL c.Seals : Int)), ⟨hlt, by simp only; omega⟩, by simp only; omega, by simp, by simp [hm, mb], by simp, by rfl⟩
  · have hil : i = l.length := by
      have : ¬ i < l.length := by simpa using hc0
      omega
    subst hil
    rw [List.take_length] at hK
    refine DW.exit ?_
    refine DW.seq ?_
    refine DW.reg (by simp; rfl) ?_
    refine DW.ret ?_
    simp [Tryz.results90, hK]
theorem markJobS_spec0 (k : Int) : Spec Tryz.prog 90 [.one (.r (.sl 0 [])), ri k] [none] [di k] [.one (.r (.sl 0 [])), ri k] := by
  refine Spec.intro Tryz.func90 rfl rfl Tryz.ntmps90 rfl (by simp) ?_
  refine DW.seq ?_
  refine DW.reg (by simp; rfl) ?_
  refine DW.seq ?_
  refine DW.seq ?_
  refine DW.reg (by simp; rfl) ?_
  refine DW.block ?_
  refine DW.loopS (α := Nat) (fun p => True) (fun p => p) (fun p => [(5, vi 0), (1, vi k)]) (fun p => []) [(0, _)] [] [] 0 (trivial) (by simp; exact rfl) (by simp) (by simp) (by rfl) ?_
  rintro p -
  refine DW.seq ?_
  refine DW.seq ?_
  refine DW.reg (by simp; rfl) ?_
  refine DW.condF (by simp) ?_
  refine DW.exit ?_
  refine DW.seq ?_
  refine DW.reg (by simp; rfl) ?_
  refine DW.ret ?_
  simp [Tryz.results90]
theorem markSystem_spec (a : System) (k : Int) (h0 : 0 < k) (h1 : k + (System.ctT a : Int) ≤ 1152921504606846976) (h : Row.sz a ≤ 2 ^ 36) : Spec Tryz.prog 27 [maSystem a, ri k] [none] [di (k + (System.ctT a : Int))] [maSystem (System.mkT a k), ri k] := by
  refine Spec.intro Tryz.func27 rfl rfl Tryz.ntmps27 rfl (by simp) ?_
  have hz := System_sz a
  have hT : System.ctT a = Memory.ctT a.Memory + ctL a.Jobs + ctL a.Seals := by simp only [System.mkT, System.ctT, Memory.mkT, Memory.ctT] <;> omega
  have hzGeo := Geo_sz a.Geo
  have hzMemory := Memory_sz a.Memory
  have u0 : 0 < k ∧ k + (Memory.ctT a.Memory : Int) ≤ 1152921504606846976 ∧ Row.sz a.Memory ≤ 2 ^ 36 := ⟨by omega, by omega, by omega⟩
  have u1 : 0 < k + (Memory.ctT a.Memory : Int) ∧ k + (Memory.ctT a.Memory : Int) + (ctL a.Jobs : Int) ≤ 1152921504606846976 ∧ szL a.Jobs ≤ 2 ^ 36 := ⟨by omega, by omega, by omega⟩
  have u2 : 0 < k + (Memory.ctT a.Memory : Int) + (ctL a.Jobs : Int) ∧ k + (Memory.ctT a.Memory : Int) + (ctL a.Jobs : Int) + (ctL a.Seals : Int) ≤ 1152921504606846976 ∧ szL a.Seals ≤ 2 ^ 36 := ⟨by omega, by omega, by omega⟩
  have hTT : k + (System.ctT a : Int) = k + (Memory.ctT a.Memory : Int) + (ctL a.Jobs : Int) + (ctL a.Seals : Int) := by omega
  obtain ⟨⟨a_Geo_Tenants, a_Geo_Pages, a_Geo_Inodes, a_Geo_Quota⟩, ⟨a_Memory_Kept, a_Memory_Cells⟩, a_Jobs, a_Seals⟩ := a
  simp only at *
  rcases nil_or_pos' a_Memory_Cells with ⟨m0, n0, e0, p0, rfl⟩ | ⟨m0, n0, e0, p0, -⟩ <;> rcases nil_or_pos' a_Jobs with ⟨m1, n1, e1, p1, rfl⟩ | ⟨m1, n1, e1, p1, -⟩ <;> rcases nil_or_pos' a_Seals with ⟨m2, n2, e2, p2, rfl⟩ | ⟨m2, n2, e2, p2, -⟩
  all_goals
    refine DW.ghost (Ghost.empty 0) ?_
    refine DW.seq ?_
    refine DW.regs ?_
    refine RegO.step rfl (OpStep.boxR rfl rfl (by decide) (by simp [m0, n0, e0, p0, m1, n1, e1, p1, m2, n2, e2, p2, Memory.mkT]; rfl) (by simp [m0, n0, e0, p0, m1, n1, e1, p1, m2, n2, e2, p2, Memory.mkT]; first | exact ⟨rfl, rfl⟩ | rfl) (by simp) (by simp)) ?_
    refine RegO.opN 1 (by simp; rfl) ?_
    refine RegO.nil ?_
    first
      | refine DW.norm [(1, _), (2, _)] [(0, _), (2, _)] [(5, _), (6, _), (7, _)] (by simp [m0, n0, e0, p0, m1, n1, e1, p1, m2, n2, e2, p2, Memory.mkT]; exact ⟨rfl, rfl⟩) (by simp [m0, n0, e0, p0, m1, n1, e1, p1, m2, n2, e2, p2, Memory.mkT]; exact ⟨rfl, rfl⟩) (by simp [m0, n0, e0, p0, m1, n1, e1, p1, m2, n2, e2, p2, Memory.mkT]; exact ⟨rfl, rfl, rfl⟩) (by rfl) ?_
      | refine DW.norm [(1, _), (2, _)] [(2, _)] [] (by simp [m0, n0, e0, p0, m1, n1, e1, p1, m2, n2, e2, p2, Memory.mkT]; exact ⟨rfl, rfl⟩) (by simp [m0, n0, e0, p0, m1, n1, e1, p1, m2, n2, e2, p2, Memory.mkT]; rfl) (by simp [m0, n0, e0, p0, m1, n1, e1, p1, m2, n2, e2, p2, Memory.mkT]) (by rfl) ?_
    refine DW.seq ?_
    refine DW.regs ?_
    refine RegO.opN 3 (by simp [m0, n0, e0, p0, m1, n1, e1, p1, m2, n2, e2, p2, Memory.mkT]; rfl) ?_
    refine RegO.step rfl (OpStep.callL (io := 0) rfl (by simp [m0, n0, e0, p0, m1, n1, e1, p1, m2, n2, e2, p2, Memory.mkT]; rfl) (markMemory_spec _ _ u0.1 u0.2.1 u0.2.2) (by rfl) (by rfl) (by rfl) (by rfl) (by simp [lendL, FS.lend, m0, n0, e0, p0, m1, n1, e1, p1, m2, n2, e2, p2, Memory.mkT]; exact ⟨rfl, rfl⟩) (by simp [apartP]) (by simp) (by simp [m0, n0, e0, p0, m1, n1, e1, p1, m2, n2, e2, p2, Memory.mkT]; rfl) (by simp [rosOk]) (by simp) (by simp [backFS, hBack, pzsC, pzS, paCells, PC.tree, m0, n0, e0, p0, m1, n1, e1, p1, m2, n2, e2, p2, Memory.mkT]; rfl)) ?_
    refine RegO.opN 1 (by simp [m0, n0, e0, p0, m1, n1, e1, p1, m2, n2, e2, p2, Memory.mkT]; rfl) ?_
    refine RegO.nil ?_
    first
      | refine DW.norm [(1, _), (2, _)] [(0, _), (2, _)] [(5, _), (6, _), (7, _)] (by simp [m0, n0, e0, p0, m1, n1, e1, p1, m2, n2, e2, p2, Memory.mkT]; exact ⟨rfl, rfl⟩) (by simp [m0, n0, e0, p0, m1, n1, e1, p1, m2, n2, e2, p2, Memory.mkT]; exact ⟨rfl, rfl⟩) (by simp [m0, n0, e0, p0, m1, n1, e1, p1, m2, n2, e2, p2, Memory.mkT]; exact ⟨rfl, rfl, rfl⟩) (by rfl) ?_
      | refine DW.norm [(1, _), (2, _)] [(2, _)] [] (by simp [m0, n0, e0, p0, m1, n1, e1, p1, m2, n2, e2, p2, Memory.mkT]; exact ⟨rfl, rfl⟩) (by simp [m0, n0, e0, p0, m1, n1, e1, p1, m2, n2, e2, p2, Memory.mkT]; rfl) (by simp [m0, n0, e0, p0, m1, n1, e1, p1, m2, n2, e2, p2, Memory.mkT]) (by rfl) ?_
    refine DW.seq ?_
    refine DW.regs ?_
    refine RegO.opN 3 (by simp [m0, n0, e0, p0, m1, n1, e1, p1, m2, n2, e2, p2, Memory.mkT]; rfl) ?_
    first
      | (refine RegO.step rfl (OpStep.callL (io := 0) rfl (by simp [m0, n0, e0, p0, m1, n1, e1, p1, m2, n2, e2, p2, Memory.mkT]; rfl) (markJobS_spec _ _ u1.1 u1.2.1 u1.2.2) (by rfl) (by rfl) (by rfl) (by rfl) (by simp [lendL, FS.lend, m0, n0, e0, p0, m1, n1, e1, p1, m2, n2, e2, p2, Memory.mkT]; exact ⟨rfl, rfl⟩) (by simp [apartP]) (by simp) (by simp [m0, n0, e0, p0, m1, n1, e1, p1, m2, n2, e2, p2, Memory.mkT]; rfl) (by simp [rosOk]) (by simp) (by simp [backFS, hBack, pzsC, pzS, paCells, PC.tree, m0, n0, e0, p0, m1, n1, e1, p1, m2, n2, e2, p2, Memory.mkT]; rfl)) ?_)
      | refine RegO.step rfl (OpStep.callA rfl (by simp [m0, n0, e0, p0, m1, n1, e1, p1, m2, n2, e2, p2, Memory.mkT]; exact ⟨rfl, rfl⟩) (by simp [m0, n0, e0, p0, m1, n1, e1, p1, m2, n2, e2, p2, Memory.mkT]; rfl) (by exact markJobS_spec0 _) (by simp) (by simp [m0, n0, e0, p0, m1, n1, e1, p1, m2, n2, e2, p2, Memory.mkT]; rfl)) ?_
    refine RegO.opN 1 (by simp [m0, n0, e0, p0, m1, n1, e1, p1, m2, n2, e2, p2, Memory.mkT]; rfl) ?_
    refine RegO.nil ?_
    first
      | refine DW.norm [(1, _), (2, _)] [(0, _), (2, _)] [(5, _), (6, _), (7, _)] (by simp [m0, n0, e0, p0, m1, n1, e1, p1, m2, n2, e2, p2, Memory.mkT]; exact ⟨rfl, rfl⟩) (by simp [m0, n0, e0, p0, m1, n1, e1, p1, m2, n2, e2, p2, Memory.mkT]; exact ⟨rfl, rfl⟩) (by simp [m0, n0, e0, p0, m1, n1, e1, p1, m2, n2, e2, p2, Memory.mkT]; exact ⟨rfl, rfl, rfl⟩) (by rfl) ?_
      | refine DW.norm [(1, _), (2, _)] [(2, _)] [] (by simp [m0, n0, e0, p0, m1, n1, e1, p1, m2, n2, e2, p2, Memory.mkT]; exact ⟨rfl, rfl⟩) (by simp [m0, n0, e0, p0, m1, n1, e1, p1, m2, n2, e2, p2, Memory.mkT]; rfl) (by simp [m0, n0, e0, p0, m1, n1, e1, p1, m2, n2, e2, p2, Memory.mkT]) (by rfl) ?_
    refine DW.seq ?_
    refine DW.regs ?_
    refine RegO.opN 3 (by simp [m0, n0, e0, p0, m1, n1, e1, p1, m2, n2, e2, p2, Memory.mkT]; rfl) ?_
    first
      | (refine RegO.step rfl (OpStep.callL (io := 0) rfl (by simp [m0, n0, e0, p0, m1, n1, e1, p1, m2, n2, e2, p2, Memory.mkT]; rfl) (markSealingS_spec _ _ u2.1 u2.2.1 u2.2.2) (by rfl) (by rfl) (by rfl) (by rfl) (by simp [lendL, FS.lend, m0, n0, e0, p0, m1, n1, e1, p1, m2, n2, e2, p2, Memory.mkT]; exact ⟨rfl, rfl⟩) (by simp [apartP]) (by simp) (by simp [m0, n0, e0, p0, m1, n1, e1, p1, m2, n2, e2, p2, Memory.mkT]; rfl) (by simp [rosOk]) (by simp) (by simp [backFS, hBack, pzsC, pzS, paCells, PC.tree, m0, n0, e0, p0, m1, n1, e1, p1, m2, n2, e2, p2, Memory.mkT]; rfl)) ?_)
      | refine RegO.step rfl (OpStep.callA rfl (by simp [m0, n0, e0, p0, m1, n1, e1, p1, m2, n2, e2, p2, Memory.mkT]; exact ⟨rfl, rfl⟩) (by simp [m0, n0, e0, p0, m1, n1, e1, p1, m2, n2, e2, p2, Memory.mkT]; rfl) (by exact markSealingS_spec0 _) (by simp) (by simp [m0, n0, e0, p0, m1, n1, e1, p1, m2, n2, e2, p2, Memory.mkT]; rfl)) ?_
    refine RegO.opN 1 (by simp [m0, n0, e0, p0, m1, n1, e1, p1, m2, n2, e2, p2, Memory.mkT]; rfl) ?_
    refine RegO.nil ?_
    first
      | refine DW.norm [(1, _), (2, _)] [(0, _), (2, _)] [(5, _), (6, _), (7, _)] (by simp [m0, n0, e0, p0, m1, n1, e1, p1, m2, n2, e2, p2, Memory.mkT]; exact ⟨rfl, rfl⟩) (by simp [m0, n0, e0, p0, m1, n1, e1, p1, m2, n2, e2, p2, Memory.mkT]; exact ⟨rfl, rfl⟩) (by simp [m0, n0, e0, p0, m1, n1, e1, p1, m2, n2, e2, p2, Memory.mkT]; exact ⟨rfl, rfl, rfl⟩) (by rfl) ?_
      | refine DW.norm [(1, _), (2, _)] [(2, _)] [] (by simp [m0, n0, e0, p0, m1, n1, e1, p1, m2, n2, e2, p2, Memory.mkT]; exact ⟨rfl, rfl⟩) (by simp [m0, n0, e0, p0, m1, n1, e1, p1, m2, n2, e2, p2, Memory.mkT]; rfl) (by simp [m0, n0, e0, p0, m1, n1, e1, p1, m2, n2, e2, p2, Memory.mkT]) (by rfl) ?_
    refine DW.seq ?_
    refine DW.reg (by simp [m0, n0, e0, p0, m1, n1, e1, p1, m2, n2, e2, p2, Memory.mkT]; rfl) ?_
    try (refine DW.ghost ((Ghost.move (id := 2) (id' := 1005) (p := [5]) (by simp; rfl) (by simp [m0, n0, e0, p0, m1, n1, e1, p1, m2, n2, e2, p2, Memory.mkT]; first | exact ⟨rfl, rfl, rfl⟩ | rfl) (by simp)).trans (Ghost.plant 1005 0 5 (by simp [m0, n0, e0, p0, m1, n1, e1, p1, m2, n2, e2, p2, Memory.mkT]; first | exact ⟨rfl, rfl, rfl⟩ | rfl) (by simp; rfl) (by simp))) ?_)
    try (refine DW.ghost ((Ghost.move (id := 2) (id' := 1006) (p := [6]) (by simp; rfl) (by simp [m0, n0, e0, p0, m1, n1, e1, p1, m2, n2, e2, p2, Memory.mkT]; first | exact ⟨rfl, rfl, rfl⟩ | rfl) (by simp)).trans (Ghost.plant 1006 0 6 (by simp [m0, n0, e0, p0, m1, n1, e1, p1, m2, n2, e2, p2, Memory.mkT]; first | exact ⟨rfl, rfl, rfl⟩ | rfl) (by simp; rfl) (by simp))) ?_)
    try (refine DW.ghost ((Ghost.move (id := 2) (id' := 1007) (p := [7]) (by simp; rfl) (by simp [m0, n0, e0, p0, m1, n1, e1, p1, m2, n2, e2, p2, Memory.mkT]; first | exact ⟨rfl, rfl, rfl⟩ | rfl) (by simp)).trans (Ghost.plant 1007 0 7 (by simp [m0, n0, e0, p0, m1, n1, e1, p1, m2, n2, e2, p2, Memory.mkT]; first | exact ⟨rfl, rfl, rfl⟩ | rfl) (by simp; rfl) (by simp))) ?_)
    refine DW.ret ?_
    simp [Tryz.results27, hTT, System.mkT, Memory.mkT, Memory.ctT, m0, n0, e0, p0, m1, n1, e1, p1, m2, n2, e2, p2, Memory.mkT, Int.add_assoc]
theorem markItemS_spec (l : List Item) (k : Int) (h0 : 0 < k) (h1 : k + (ctL l : Int) ≤ 1152921504606846976) (h : szL l ≤ 2 ^ 36) : Spec Tryz.prog 146 [.one (.m 3 l.length (rD l)), ri k] [none] [di (k + (ctL l : Int))] [.one (.m 3 l.length (rD (mkL l k))), ri k] := by
  refine Spec.intro Tryz.func146 rfl rfl Tryz.ntmps146 rfl (by simp) ?_
  have hll := szL_len l
  refine DW.seq ?_
  refine DW.reg (by simp; rfl) ?_
  refine DW.seq ?_
  refine DW.seq ?_
  refine DW.reg (by simp; rfl) ?_
  refine DW.block ?_
  refine DW.loopS (α := Nat × Int) (fun p => p.1 ≤ l.length ∧ p.2 = k + (ctL (l.take p.1) : Int)) (fun p => l.length - p.1) (fun p => [(5, vi p.1), (1, vi p.2)]) (fun p => [(0, .hold [.ow () 3 l.length (rD (mkL (l.take p.1) k) ++ rD (l.drop p.1))])]) [(0, _)] [] [(0, .sl 0 [0] 0 l.length)] (0, k) (⟨Nat.zero_le _, by simp⟩) (by simp; exact rfl) (by simp) (by simp) (by rfl) ?_
  rintro ⟨i, K⟩ ⟨hi, hK⟩
  simp only at hi hK ⊢
  refine DW.seq ?_
  refine DW.seq ?_
  refine DW.reg (by simp; rfl) ?_
  refine DW.condB (by simp; exact rfl) (fun hc0 => ?_) (fun hc0 => ?_)
  · have hlt : i < l.length := by simpa using hc0
    have hd := rD_dropc l i hlt
    have hs := szL_at l i hlt
    have hct := ctL_take l i hlt
    have hca := ctL_at l i hlt
    have hm := mkL_take l i k hlt
    replace hm := congrArg rD hm
    rw [rD_append, ← hK] at hm
    have hlt' : (i : Int) < l.length := by omega
    have w1 : IntKind.i64.wrap ((i : Int) + 1) = ((i + 1 : Nat) : Int) := (wr _ (by omega) (by omega)).trans (by omega)
    have hA : (rD (mkL (l.take i) k)).length = i * 3 := by rw [rD_len_Item, mkL_len, List.length_take, Nat.min_eq_left (by omega)]
    generalize l[i] = c at hd hs hct hca hm
    have hcc := Item_ct c
    have hcs := Item_sz c
    rw [Item_mk] at hm
    replace hm : rD (mkL (l.take (i + 1)) k) = rD (mkL (l.take i) k) ++ Item.d _ := hm.trans (by simp only [rD, List.flatMap_cons, List.flatMap_nil, List.append_nil]; rfl)
    replace hd : rD (l.drop i) = Item.d c ++ rD (l.drop (i + 1)) := hd
    have t0 : 0 < K ∧ K < 4611686018427387904 := ⟨by omega, by omega⟩
    have t1 : 0 < K + 1 ∧ K + 1 < 4611686018427387904 := ⟨by omega, by omega⟩
    have t2 : 0 < K + 2 ∧ K + 2 < 4611686018427387904 := ⟨by omega, by omega⟩
    obtain ⟨v1, v2, v3⟩ : IntKind.i64.wrap (K + 1) = K + 1 ∧ IntKind.i64.wrap (K + 1 + 1) = K + 2 ∧ IntKind.i64.wrap (K + 2 + 1) = K + 3 := ⟨(wr _ (by omega) (by omega)).trans (by omega), (wr _ (by omega) (by omega)).trans (by omega), (wr _ (by omega) (by omega)).trans (by omega)⟩
    refine DW.skip ?_
    refine DW.seq ?_
    refine DW.block ?_
    refine DW.seq ?_
    refine DW.regs ?_
    refine RegO.opN 3 (by simp [hd, hlt', app_get hA, app_get0 hA, app_set hA, app_set0 hA, Nat.add_assoc]; rfl) ?_
    refine RegO.step rfl (OpStep.callA rfl (by simp [hd, hlt', app_get hA, app_get0 hA, app_set hA, app_set0 hA, Nat.add_assoc]; exact ⟨rfl, rfl⟩) (by simp [hd, hlt', app_get hA, app_get0 hA, app_set hA, app_set0 hA, Nat.add_assoc]; rfl) (by exact markText_spec _ t0.1 t0.2) (by simp) (by simp [hd, hlt', app_get hA, app_get0 hA, app_set hA, app_set0 hA, Nat.add_assoc]; rfl)) ?_
    refine RegO.opN 3 (by simp [hd, hlt', app_get hA, app_get0 hA, app_set hA, app_set0 hA, Nat.add_assoc]; rfl) ?_
    refine RegO.nil ?_
    refine DW.seq ?_
    refine DW.reg (by simp [v1]; rfl) ?_
    refine DW.seq ?_
    refine DW.reg (by simp [hd, hlt', app_get hA, app_get0 hA, app_set hA, app_set0 hA, Nat.add_assoc]; rfl) ?_
    refine DW.seq ?_
    refine DW.reg (by simp [v2]; rfl) ?_
    refine DW.seq ?_
    refine DW.regs ?_
    refine RegO.opN 3 (by simp [hd, hlt', app_get hA, app_get0 hA, app_set hA, app_set0 hA, Nat.add_assoc]; rfl) ?_
    refine RegO.step rfl (OpStep.callA rfl (by simp [hd, hlt', app_get hA, app_get0 hA, app_set hA, app_set0 hA, Nat.add_assoc]; exact ⟨rfl, rfl⟩) (by simp [hd, hlt', app_get hA, app_get0 hA, app_set hA, app_set0 hA, Nat.add_assoc]; rfl) (by exact markText_spec _ t2.1 t2.2) (by simp) (by simp [hd, hlt', app_get hA, app_get0 hA, app_set hA, app_set0 hA, Nat.add_assoc]; rfl)) ?_
    refine RegO.opN 3 (by simp [hd, hlt', app_get hA, app_get0 hA, app_set hA, app_set0 hA, Nat.add_assoc]; rfl) ?_
    refine RegO.nil ?_
    refine DW.reg (by simp [v3]; rfl) ?_
    refine DW.reg (by simp [w1]; rfl) ?_
    clear v1 v2 v3
    exact ⟨(i + 1, K + 3), ⟨hlt, by simp only; omega⟩, by simp only; omega, by simp, by simp [hm, mb], by simp, by rfl⟩
  · have hil : i = l.length := by
      have : ¬ i < l.length := by simpa using hc0
      omega
    subst hil
    rw [List.take_length] at hK
    refine DW.exit ?_
    refine DW.seq ?_
    refine DW.reg (by simp; rfl) ?_
    refine DW.ret ?_
    simp [Tryz.results146, hK]
theorem markItemS_spec0 (k : Int) : Spec Tryz.prog 146 [.one (.r (.sl 0 [])), ri k] [none] [di k] [.one (.r (.sl 0 [])), ri k] := by
  refine Spec.intro Tryz.func146 rfl rfl Tryz.ntmps146 rfl (by simp) ?_
  refine DW.seq ?_
  refine DW.reg (by simp; rfl) ?_
  refine DW.seq ?_
  refine DW.seq ?_
  refine DW.reg (by simp; rfl) ?_
  refine DW.block ?_
  refine DW.loopS (α := Nat) (fun p => True) (fun p => p) (fun p => [(5, vi 0), (1, vi k)]) (fun p => []) [(0, _)] [] [] 0 (trivial) (by simp; exact rfl) (by simp) (by simp) (by rfl) ?_
  rintro p -
  refine DW.seq ?_
  refine DW.seq ?_
  refine DW.reg (by simp; rfl) ?_
  refine DW.condF (by simp) ?_
  refine DW.exit ?_
  refine DW.seq ?_
  refine DW.reg (by simp; rfl) ?_
  refine DW.ret ?_
  simp [Tryz.results146]
theorem markViewS_spec (l : List View) (k : Int) (h0 : 0 < k) (h1 : k + (ctL l : Int) ≤ 1152921504606846976) (h : szL l ≤ 2 ^ 36) : Spec Tryz.prog 95 [.one (.m 1 l.length (rD l)), ri k] [none] [di (k + (ctL l : Int))] [.one (.m 1 l.length (rD (mkL l k))), ri k] := by
  refine Spec.intro Tryz.func95 rfl rfl Tryz.ntmps95 rfl (by simp) ?_
  have hll := szL_len l
  refine DW.seq ?_
  refine DW.reg (by simp; rfl) ?_
  refine DW.seq ?_
  refine DW.seq ?_
  refine DW.reg (by simp; rfl) ?_
  refine DW.block ?_
  refine DW.loopS (α := Nat × Int) (fun p => p.1 ≤ l.length ∧ p.2 = k + (ctL (l.take p.1) : Int)) (fun p => l.length - p.1) (fun p => [(5, vi p.1), (1, vi p.2)]) (fun p => [(0, .hold [.ow () 1 l.length (rD (mkL (l.take p.1) k) ++ rD (l.drop p.1))])]) [(0, _)] [] [(0, .sl 0 [0] 0 l.length)] (0, k) (⟨Nat.zero_le _, by simp⟩) (by simp; exact rfl) (by simp) (by simp) (by rfl) ?_
  rintro ⟨i, K⟩ ⟨hi, hK⟩
  simp only at hi hK ⊢
  refine DW.seq ?_
  refine DW.seq ?_
  refine DW.reg (by simp; rfl) ?_
  refine DW.condB (by simp; exact rfl) (fun hc0 => ?_) (fun hc0 => ?_)
  · have hlt : i < l.length := by simpa using hc0
    have hd := rD_dropc l i hlt
    have hs := szL_at l i hlt
    have hct := ctL_take l i hlt
    have hca := ctL_at l i hlt
    have hm := mkL_take l i k hlt
    replace hm := congrArg rD hm
    rw [rD_append, ← hK] at hm
    have hlt' : (i : Int) < l.length := by omega
    have w1 : IntKind.i64.wrap ((i : Int) + 1) = ((i + 1 : Nat) : Int) := (wr _ (by omega) (by omega)).trans (by omega)
    have hA : (rD (mkL (l.take i) k)).length = i := by rw [rD_len_View, mkL_len, List.length_take, Nat.min_eq_left (by omega)]; omega
    generalize l[i] = c at hd hs hct hca hm
    have hcc := View_ct c
    have hcs := View_sz c
    rw [View_mk] at hm
    replace hm : rD (mkL (l.take (i + 1)) k) = rD (mkL (l.take i) k) ++ View.d _ := hm.trans (by simp only [rD, List.flatMap_cons, List.flatMap_nil, List.append_nil]; rfl)
    replace hd : rD (l.drop i) = View.d c ++ rD (l.drop (i + 1)) := hd
    have u1 : 0 < K ∧ K + (ctL c.Items : Int) ≤ 1152921504606846976 ∧ szL c.Items ≤ 2 ^ 36 ∧ ¬ (K + (ctL c.Items : Int) < 0) := ⟨by omega, by omega, by omega, by omega⟩
    refine DW.skip ?_
    refine DW.seq ?_
    refine DW.block ?_
    refine DW.regs ?_
    refine RegO.opN 6 (by simp [hd, hlt', app_get hA, app_get0 hA, app_set hA, app_set0 hA, Nat.add_assoc]; rfl) ?_
    refine RegO.step rfl (OpStep.callL (io := 0) rfl (by simp [hd, hlt', app_get hA, app_get0 hA, app_set hA, app_set0 hA, Nat.add_assoc]; rfl) (markItemS_spec c.Items (K) u1.1 u1.2.1 u1.2.2.1) (by rfl) (by rfl) (by rfl) (by rfl) (by simp [lendL, FS.lend, hd, hlt', app_get hA, app_get0 hA, app_set hA, app_set0 hA, Nat.add_assoc]; exact ⟨rfl, rfl⟩) (by simp [apartP]) (by simp) (by simp [hd, hlt', app_get hA, app_get0 hA, app_set hA, app_set0 hA, Nat.add_assoc]; rfl) (by simp [rosOk]) (by simp) (by simp [backFS, hBack, pzsC, pzS, paCells, PC.tree, hd, hlt', app_get hA, app_get0 hA, app_set hA, app_set0 hA, Nat.add_assoc]; rfl)) ?_
    refine RegO.opN 1 (by simp [hd, hlt', app_get hA, app_get0 hA, app_set hA, app_set0 hA, Nat.add_assoc]; rfl) ?_
    refine RegO.nil ?_
    refine DW.reg (by simp [w1]; rfl) ?_
    exact ⟨(i + 1, K + (ctL c.Items : Int)), ⟨hlt, by simp only; omega⟩, by simp only; omega, by simp, by simp [hm, mb], by simp, by rfl⟩
  · have hil : i = l.length := by
      have : ¬ i < l.length := by simpa using hc0
      omega
    subst hil
    rw [List.take_length] at hK
    refine DW.exit ?_
    refine DW.seq ?_
    refine DW.reg (by simp; rfl) ?_
    refine DW.ret ?_
    simp [Tryz.results95, hK]
theorem markViewS_spec0 (k : Int) : Spec Tryz.prog 95 [.one (.r (.sl 0 [])), ri k] [none] [di k] [.one (.r (.sl 0 [])), ri k] := by
  refine Spec.intro Tryz.func95 rfl rfl Tryz.ntmps95 rfl (by simp) ?_
  refine DW.seq ?_
  refine DW.reg (by simp; rfl) ?_
  refine DW.seq ?_
  refine DW.seq ?_
  refine DW.reg (by simp; rfl) ?_
  refine DW.block ?_
  refine DW.loopS (α := Nat) (fun p => True) (fun p => p) (fun p => [(5, vi 0), (1, vi k)]) (fun p => []) [(0, _)] [] [] 0 (trivial) (by simp; exact rfl) (by simp) (by simp) (by rfl) ?_
  rintro p -
  refine DW.seq ?_
  refine DW.seq ?_
  refine DW.reg (by simp; rfl) ?_
  refine DW.condF (by simp) ?_
  refine DW.exit ?_
  refine DW.seq ?_
  refine DW.reg (by simp; rfl) ?_
  refine DW.ret ?_
  simp [Tryz.results95]
theorem markWorld_spec (a : World) (k : Int) (h0 : 0 < k) (h1 : k + (World.ctT a : Int) ≤ 1152921504606846976) (h : Row.sz a ≤ 2 ^ 36) (hpat : (0 < a.System.Jobs.length ∧ a.System.Seals = [] ∧ 0 < a.Views.length ∧ 0 < a.Hoped.length) ∨ (a.System.Memory.Cells = [] ∧ a.System.Jobs = [] ∧ a.System.Seals = [] ∧ a.Views = [] ∧ a.Hoped = [])) : Spec Tryz.prog 32 [maWorld a, ri k] [none] [di (k + (World.ctT a : Int))] [maWorld (World.mkT a k), ri k] := by
  refine Spec.intro Tryz.func32 rfl rfl Tryz.ntmps32 rfl (by simp) ?_
  have hz := World_sz a
  have hT : World.ctT a = System.ctT a.System + ctL a.Views + ctL a.Hoped := by simp only [World.mkT, World.ctT, System.mkT, System.ctT] <;> omega
  have hzSystem := System_sz a.System
  have u0 : 0 < k ∧ k + (System.ctT a.System : Int) ≤ 1152921504606846976 ∧ Row.sz a.System ≤ 2 ^ 36 := ⟨by omega, by omega, by omega⟩
  have u1 : 0 < k + (System.ctT a.System : Int) ∧ k + (System.ctT a.System : Int) + (ctL a.Views : Int) ≤ 1152921504606846976 ∧ szL a.Views ≤ 2 ^ 36 := ⟨by omega, by omega, by omega⟩
  have u2 : 0 < k + (System.ctT a.System : Int) + (ctL a.Views : Int) ∧ k + (System.ctT a.System : Int) + (ctL a.Views : Int) + (ctL a.Hoped : Int) ≤ 1152921504606846976 ∧ szL a.Hoped ≤ 2 ^ 36 := ⟨by omega, by omega, by omega⟩
  have hTT : k + (World.ctT a : Int) = k + (System.ctT a.System : Int) + (ctL a.Views : Int) + (ctL a.Hoped : Int) := by omega
  obtain ⟨⟨⟨a_System_Geo_Tenants, a_System_Geo_Pages, a_System_Geo_Inodes, a_System_Geo_Quota⟩, ⟨a_System_Memory_Kept, a_System_Memory_Cells⟩, a_System_Jobs, a_System_Seals⟩, a_Views, a_Hoped, a_Falls⟩ := a
  simp only at *
  rcases nil_or_pos' a_System_Memory_Cells with ⟨m0, n0, e0, p0, rfl⟩ | ⟨m0, n0, e0, p0, -⟩
  all_goals rcases hpat with ⟨q1, q2, q3, q4⟩ | ⟨q0, q1, q2, q3, q4⟩
  all_goals try (exfalso; rw [q0] at p0; exact absurd p0 (by simp))
  all_goals first | (subst q1; have m1 : True := trivial; have n1 : True := trivial; have e1 : True := trivial; have p1 : True := trivial) | (obtain ⟨m1, n1, e1, p1, -⟩ := pos_mc q1)
  all_goals first | (subst q2; have m2 : True := trivial; have n2 : True := trivial; have e2 : True := trivial; have p2 : True := trivial) | (obtain ⟨m2, n2, e2, p2, -⟩ := pos_mc q2)
  all_goals first | (subst q3; have m3 : True := trivial; have n3 : True := trivial; have e3 : True := trivial; have p3 : True := trivial) | (obtain ⟨m3, n3, e3, p3, -⟩ := pos_mc q3)
  all_goals first | (subst q4; have m4 : True := trivial; have n4 : True := trivial; have e4 : True := trivial; have p4 : True := trivial) | (obtain ⟨m4, n4, e4, p4, -⟩ := pos_mc q4)
  all_goals
    refine DW.ghost (Ghost.empty 0) ?_
    refine DW.seq ?_
    refine DW.regs ?_
    refine RegO.step rfl (OpStep.boxR rfl rfl (by decide) (by simp [m0, n0, e0, p0, m1, n1, e1, p1, m2, n2, e2, p2, m3, n3, e3, p3, m4, n4, e4, p4, System.mkT]; rfl) (by simp [m0, n0, e0, p0, m1, n1, e1, p1, m2, n2, e2, p2, m3, n3, e3, p3, m4, n4, e4, p4, System.mkT]; first | exact ⟨rfl, rfl⟩ | rfl) (by simp) (by simp)) ?_
    refine RegO.opN 1 (by simp; rfl) ?_
    refine RegO.nil ?_
    first
      | refine DW.norm [(1, _), (2, _)] [(0, _), (2, _)] [(5, _), (6, _), (7, _), (8, _), (9, _)] (by simp [m0, n0, e0, p0, m1, n1, e1, p1, m2, n2, e2, p2, m3, n3, e3, p3, m4, n4, e4, p4, System.mkT]; exact ⟨rfl, rfl⟩) (by simp [m0, n0, e0, p0, m1, n1, e1, p1, m2, n2, e2, p2, m3, n3, e3, p3, m4, n4, e4, p4, System.mkT]; exact ⟨rfl, rfl⟩) (by simp [m0, n0, e0, p0, m1, n1, e1, p1, m2, n2, e2, p2, m3, n3, e3, p3, m4, n4, e4, p4, System.mkT]; exact ⟨rfl, rfl, rfl, rfl, rfl⟩) (by rfl) ?_
      | refine DW.norm [(1, _), (2, _)] [(2, _)] [] (by simp [m0, n0, e0, p0, m1, n1, e1, p1, m2, n2, e2, p2, m3, n3, e3, p3, m4, n4, e4, p4, System.mkT]; exact ⟨rfl, rfl⟩) (by simp [m0, n0, e0, p0, m1, n1, e1, p1, m2, n2, e2, p2, m3, n3, e3, p3, m4, n4, e4, p4, System.mkT]; rfl) (by simp [m0, n0, e0, p0, m1, n1, e1, p1, m2, n2, e2, p2, m3, n3, e3, p3, m4, n4, e4, p4, System.mkT]) (by rfl) ?_
    refine DW.seq ?_
    refine DW.regs ?_
    refine RegO.opN 3 (by simp [m0, n0, e0, p0, m1, n1, e1, p1, m2, n2, e2, p2, m3, n3, e3, p3, m4, n4, e4, p4, System.mkT]; rfl) ?_
    refine RegO.step rfl (OpStep.callL (io := 0) rfl (by simp [m0, n0, e0, p0, m1, n1, e1, p1, m2, n2, e2, p2, m3, n3, e3, p3, m4, n4, e4, p4, System.mkT]; rfl) (markSystem_spec _ _ u0.1 u0.2.1 u0.2.2) (by rfl) (by rfl) (by rfl) (by rfl) (by simp [lendL, FS.lend, m0, n0, e0, p0, m1, n1, e1, p1, m2, n2, e2, p2, m3, n3, e3, p3, m4, n4, e4, p4, System.mkT]; exact ⟨rfl, rfl⟩) (by simp [apartP]) (by simp) (by simp [m0, n0, e0, p0, m1, n1, e1, p1, m2, n2, e2, p2, m3, n3, e3, p3, m4, n4, e4, p4, System.mkT]; rfl) (by simp [rosOk]) (by simp) (by simp [backFS, hBack, pzsC, pzS, paCells, PC.tree, m0, n0, e0, p0, m1, n1, e1, p1, m2, n2, e2, p2, m3, n3, e3, p3, m4, n4, e4, p4, System.mkT]; rfl)) ?_
    refine RegO.opN 1 (by simp [m0, n0, e0, p0, m1, n1, e1, p1, m2, n2, e2, p2, m3, n3, e3, p3, m4, n4, e4, p4, System.mkT]; rfl) ?_
    refine RegO.nil ?_
    first
      | refine DW.norm [(1, _), (2, _)] [(0, _), (2, _)] [(5, _), (6, _), (7, _), (8, _), (9, _)] (by simp [m0, n0, e0, p0, m1, n1, e1, p1, m2, n2, e2, p2, m3, n3, e3, p3, m4, n4, e4, p4, System.mkT]; exact ⟨rfl, rfl⟩) (by simp [m0, n0, e0, p0, m1, n1, e1, p1, m2, n2, e2, p2, m3, n3, e3, p3, m4, n4, e4, p4, System.mkT]; exact ⟨rfl, rfl⟩) (by simp [m0, n0, e0, p0, m1, n1, e1, p1, m2, n2, e2, p2, m3, n3, e3, p3, m4, n4, e4, p4, System.mkT]; exact ⟨rfl, rfl, rfl, rfl, rfl⟩) (by rfl) ?_
      | refine DW.norm [(1, _), (2, _)] [(2, _)] [] (by simp [m0, n0, e0, p0, m1, n1, e1, p1, m2, n2, e2, p2, m3, n3, e3, p3, m4, n4, e4, p4, System.mkT]; exact ⟨rfl, rfl⟩) (by simp [m0, n0, e0, p0, m1, n1, e1, p1, m2, n2, e2, p2, m3, n3, e3, p3, m4, n4, e4, p4, System.mkT]; rfl) (by simp [m0, n0, e0, p0, m1, n1, e1, p1, m2, n2, e2, p2, m3, n3, e3, p3, m4, n4, e4, p4, System.mkT]) (by rfl) ?_
    refine DW.seq ?_
    refine DW.regs ?_
    refine RegO.opN 3 (by simp [m0, n0, e0, p0, m1, n1, e1, p1, m2, n2, e2, p2, m3, n3, e3, p3, m4, n4, e4, p4, System.mkT]; rfl) ?_
    first
      | (refine RegO.step rfl (OpStep.callL (io := 0) rfl (by simp [m0, n0, e0, p0, m1, n1, e1, p1, m2, n2, e2, p2, m3, n3, e3, p3, m4, n4, e4, p4, System.mkT]; rfl) (markViewS_spec _ _ u1.1 u1.2.1 u1.2.2) (by rfl) (by rfl) (by rfl) (by rfl) (by simp [lendL, FS.lend, m0, n0, e0, p0, m1, n1, e1, p1, m2, n2, e2, p2, m3, n3, e3, p3, m4, n4, e4, p4, System.mkT]; exact ⟨rfl, rfl⟩) (by simp [apartP]) (by simp) (by simp [m0, n0, e0, p0, m1, n1, e1, p1, m2, n2, e2, p2, m3, n3, e3, p3, m4, n4, e4, p4, System.mkT]; rfl) (by simp [rosOk]) (by simp) (by simp [backFS, hBack, pzsC, pzS, paCells, PC.tree, m0, n0, e0, p0, m1, n1, e1, p1, m2, n2, e2, p2, m3, n3, e3, p3, m4, n4, e4, p4, System.mkT]; rfl)) ?_)
      | refine RegO.step rfl (OpStep.callA rfl (by simp [m0, n0, e0, p0, m1, n1, e1, p1, m2, n2, e2, p2, m3, n3, e3, p3, m4, n4, e4, p4, System.mkT]; exact ⟨rfl, rfl⟩) (by simp [m0, n0, e0, p0, m1, n1, e1, p1, m2, n2, e2, p2, m3, n3, e3, p3, m4, n4, e4, p4, System.mkT]; rfl) (by exact markViewS_spec0 _) (by simp) (by simp [m0, n0, e0, p0, m1, n1, e1, p1, m2, n2, e2, p2, m3, n3, e3, p3, m4, n4, e4, p4, System.mkT]; rfl)) ?_
    refine RegO.opN 1 (by simp [m0, n0, e0, p0, m1, n1, e1, p1, m2, n2, e2, p2, m3, n3, e3, p3, m4, n4, e4, p4, System.mkT]; rfl) ?_
    refine RegO.nil ?_
    first
      | refine DW.norm [(1, _), (2, _)] [(0, _), (2, _)] [(5, _), (6, _), (7, _), (8, _), (9, _)] (by simp [m0, n0, e0, p0, m1, n1, e1, p1, m2, n2, e2, p2, m3, n3, e3, p3, m4, n4, e4, p4, System.mkT]; exact ⟨rfl, rfl⟩) (by simp [m0, n0, e0, p0, m1, n1, e1, p1, m2, n2, e2, p2, m3, n3, e3, p3, m4, n4, e4, p4, System.mkT]; exact ⟨rfl, rfl⟩) (by simp [m0, n0, e0, p0, m1, n1, e1, p1, m2, n2, e2, p2, m3, n3, e3, p3, m4, n4, e4, p4, System.mkT]; exact ⟨rfl, rfl, rfl, rfl, rfl⟩) (by rfl) ?_
      | refine DW.norm [(1, _), (2, _)] [(2, _)] [] (by simp [m0, n0, e0, p0, m1, n1, e1, p1, m2, n2, e2, p2, m3, n3, e3, p3, m4, n4, e4, p4, System.mkT]; exact ⟨rfl, rfl⟩) (by simp [m0, n0, e0, p0, m1, n1, e1, p1, m2, n2, e2, p2, m3, n3, e3, p3, m4, n4, e4, p4, System.mkT]; rfl) (by simp [m0, n0, e0, p0, m1, n1, e1, p1, m2, n2, e2, p2, m3, n3, e3, p3, m4, n4, e4, p4, System.mkT]) (by rfl) ?_
    refine DW.seq ?_
    refine DW.regs ?_
    refine RegO.opN 3 (by simp [m0, n0, e0, p0, m1, n1, e1, p1, m2, n2, e2, p2, m3, n3, e3, p3, m4, n4, e4, p4, System.mkT]; rfl) ?_
    first
      | (refine RegO.step rfl (OpStep.callL (io := 0) rfl (by simp [m0, n0, e0, p0, m1, n1, e1, p1, m2, n2, e2, p2, m3, n3, e3, p3, m4, n4, e4, p4, System.mkT]; rfl) (markViewS_spec _ _ u2.1 u2.2.1 u2.2.2) (by rfl) (by rfl) (by rfl) (by rfl) (by simp [lendL, FS.lend, m0, n0, e0, p0, m1, n1, e1, p1, m2, n2, e2, p2, m3, n3, e3, p3, m4, n4, e4, p4, System.mkT]; exact ⟨rfl, rfl⟩) (by simp [apartP]) (by simp) (by simp [m0, n0, e0, p0, m1, n1, e1, p1, m2, n2, e2, p2, m3, n3, e3, p3, m4, n4, e4, p4, System.mkT]; rfl) (by simp [rosOk]) (by simp) (by simp [backFS, hBack, pzsC, pzS, paCells, PC.tree, m0, n0, e0, p0, m1, n1, e1, p1, m2, n2, e2, p2, m3, n3, e3, p3, m4, n4, e4, p4, System.mkT]; rfl)) ?_)
      | refine RegO.step rfl (OpStep.callA rfl (by simp [m0, n0, e0, p0, m1, n1, e1, p1, m2, n2, e2, p2, m3, n3, e3, p3, m4, n4, e4, p4, System.mkT]; exact ⟨rfl, rfl⟩) (by simp [m0, n0, e0, p0, m1, n1, e1, p1, m2, n2, e2, p2, m3, n3, e3, p3, m4, n4, e4, p4, System.mkT]; rfl) (by exact markViewS_spec0 _) (by simp) (by simp [m0, n0, e0, p0, m1, n1, e1, p1, m2, n2, e2, p2, m3, n3, e3, p3, m4, n4, e4, p4, System.mkT]; rfl)) ?_
    refine RegO.opN 1 (by simp [m0, n0, e0, p0, m1, n1, e1, p1, m2, n2, e2, p2, m3, n3, e3, p3, m4, n4, e4, p4, System.mkT]; rfl) ?_
    refine RegO.nil ?_
    first
      | refine DW.norm [(1, _), (2, _)] [(0, _), (2, _)] [(5, _), (6, _), (7, _), (8, _), (9, _)] (by simp [m0, n0, e0, p0, m1, n1, e1, p1, m2, n2, e2, p2, m3, n3, e3, p3, m4, n4, e4, p4, System.mkT]; exact ⟨rfl, rfl⟩) (by simp [m0, n0, e0, p0, m1, n1, e1, p1, m2, n2, e2, p2, m3, n3, e3, p3, m4, n4, e4, p4, System.mkT]; exact ⟨rfl, rfl⟩) (by simp [m0, n0, e0, p0, m1, n1, e1, p1, m2, n2, e2, p2, m3, n3, e3, p3, m4, n4, e4, p4, System.mkT]; exact ⟨rfl, rfl, rfl, rfl, rfl⟩) (by rfl) ?_
      | refine DW.norm [(1, _), (2, _)] [(2, _)] [] (by simp [m0, n0, e0, p0, m1, n1, e1, p1, m2, n2, e2, p2, m3, n3, e3, p3, m4, n4, e4, p4, System.mkT]; exact ⟨rfl, rfl⟩) (by simp [m0, n0, e0, p0, m1, n1, e1, p1, m2, n2, e2, p2, m3, n3, e3, p3, m4, n4, e4, p4, System.mkT]; rfl) (by simp [m0, n0, e0, p0, m1, n1, e1, p1, m2, n2, e2, p2, m3, n3, e3, p3, m4, n4, e4, p4, System.mkT]) (by rfl) ?_
    refine DW.seq ?_
    refine DW.reg (by simp [m0, n0, e0, p0, m1, n1, e1, p1, m2, n2, e2, p2, m3, n3, e3, p3, m4, n4, e4, p4, System.mkT]; rfl) ?_
    try (refine DW.ghost ((Ghost.move (id := 2) (id' := 1005) (p := [5]) (by simp; rfl) (by simp [m0, n0, e0, p0, m1, n1, e1, p1, m2, n2, e2, p2, m3, n3, e3, p3, m4, n4, e4, p4, System.mkT]; first | exact ⟨rfl, rfl, rfl⟩ | rfl) (by simp)).trans (Ghost.plant 1005 0 5 (by simp [m0, n0, e0, p0, m1, n1, e1, p1, m2, n2, e2, p2, m3, n3, e3, p3, m4, n4, e4, p4, System.mkT]; first | exact ⟨rfl, rfl, rfl⟩ | rfl) (by simp; rfl) (by simp))) ?_)
    try (refine DW.ghost ((Ghost.move (id := 2) (id' := 1006) (p := [6]) (by simp; rfl) (by simp [m0, n0, e0, p0, m1, n1, e1, p1, m2, n2, e2, p2, m3, n3, e3, p3, m4, n4, e4, p4, System.mkT]; first | exact ⟨rfl, rfl, rfl⟩ | rfl) (by simp)).trans (Ghost.plant 1006 0 6 (by simp [m0, n0, e0, p0, m1, n1, e1, p1, m2, n2, e2, p2, m3, n3, e3, p3, m4, n4, e4, p4, System.mkT]; first | exact ⟨rfl, rfl, rfl⟩ | rfl) (by simp; rfl) (by simp))) ?_)
    try (refine DW.ghost ((Ghost.move (id := 2) (id' := 1007) (p := [7]) (by simp; rfl) (by simp [m0, n0, e0, p0, m1, n1, e1, p1, m2, n2, e2, p2, m3, n3, e3, p3, m4, n4, e4, p4, System.mkT]; first | exact ⟨rfl, rfl, rfl⟩ | rfl) (by simp)).trans (Ghost.plant 1007 0 7 (by simp [m0, n0, e0, p0, m1, n1, e1, p1, m2, n2, e2, p2, m3, n3, e3, p3, m4, n4, e4, p4, System.mkT]; first | exact ⟨rfl, rfl, rfl⟩ | rfl) (by simp; rfl) (by simp))) ?_)
    try (refine DW.ghost ((Ghost.move (id := 2) (id' := 1008) (p := [8]) (by simp; rfl) (by simp [m0, n0, e0, p0, m1, n1, e1, p1, m2, n2, e2, p2, m3, n3, e3, p3, m4, n4, e4, p4, System.mkT]; first | exact ⟨rfl, rfl, rfl⟩ | rfl) (by simp)).trans (Ghost.plant 1008 0 8 (by simp [m0, n0, e0, p0, m1, n1, e1, p1, m2, n2, e2, p2, m3, n3, e3, p3, m4, n4, e4, p4, System.mkT]; first | exact ⟨rfl, rfl, rfl⟩ | rfl) (by simp; rfl) (by simp))) ?_)
    try (refine DW.ghost ((Ghost.move (id := 2) (id' := 1009) (p := [9]) (by simp; rfl) (by simp [m0, n0, e0, p0, m1, n1, e1, p1, m2, n2, e2, p2, m3, n3, e3, p3, m4, n4, e4, p4, System.mkT]; first | exact ⟨rfl, rfl, rfl⟩ | rfl) (by simp)).trans (Ghost.plant 1009 0 9 (by simp [m0, n0, e0, p0, m1, n1, e1, p1, m2, n2, e2, p2, m3, n3, e3, p3, m4, n4, e4, p4, System.mkT]; first | exact ⟨rfl, rfl, rfl⟩ | rfl) (by simp; rfl) (by simp))) ?_)
    refine DW.ret ?_
    simp [Tryz.results32, hTT, World.mkT, System.mkT, System.ctT, m0, n0, e0, p0, m1, n1, e1, p1, m2, n2, e2, p2, m3, n3, e3, p3, m4, n4, e4, p4, System.mkT, Int.add_assoc]
theorem heldCellS_spec (l : List Cell) (k : Int) (h0 : 0 < k) (h1 : k + (ctL l : Int) ≤ 1152921504606846976) (h : szL l ≤ 2 ^ 36) : Spec Tryz.prog 86 [.one (.r (.sl l.length (rR (mkL l k)))), ri k] [none] [di (k + (ctL l : Int))] [.one (.r (.sl l.length (rR (mkL l k)))), ri k] := by
  refine Spec.intro Tryz.func86 rfl rfl Tryz.ntmps86 rfl (by simp) ?_
  have hll := szL_len l
  refine DW.seq ?_
  refine DW.reg (by simp; rfl) ?_
  refine DW.seq ?_
  refine DW.seq ?_
  refine DW.reg (by simp; rfl) ?_
  refine DW.block ?_
  refine DW.loopS (α := Nat × Int) (fun p => p.1 ≤ l.length ∧ p.2 = k + (ctL (l.take p.1) : Int)) (fun p => l.length - p.1) (fun p => [(5, vi p.1), (1, vi p.2)]) (fun p => []) [(0, _)] [] [] (0, k) (⟨Nat.zero_le _, by simp⟩) (by simp; exact rfl) (by simp) (by simp) (by rfl) ?_
  rintro ⟨i, K⟩ ⟨hi, hK⟩
  simp only at hi hK ⊢
  refine DW.seq ?_
  refine DW.seq ?_
  refine DW.reg (by simp; rfl) ?_
  refine DW.condB (by simp; exact rfl) (fun hc0 => ?_) (fun hc0 => ?_)
  · have hlt : i < l.length := by simpa using hc0
    have hd := rR_drop_Cell (mkL l k) i (by simpa using hlt)
    rw [mkL_get l k i hlt, ← hK] at hd
    have hs := szL_at l i hlt
    have hct := ctL_take l i hlt
    have hca := ctL_at l i hlt
    have hlt' : (i : Int) < l.length := by omega
    have w1 : IntKind.i64.wrap ((i : Int) + 1) = ((i + 1 : Nat) : Int) := (wr _ (by omega) (by omega)).trans (by omega)
    generalize l[i] = c at hd hs hct hca
    have hcc := Cell_ct c
    have hcs := Cell_sz c
    rw [Cell_mk] at hd
    have t0 : 0 < K ∧ K < 4611686018427387904 := ⟨by omega, by omega⟩
    have t1 : 0 < K + 1 ∧ K + 1 < 4611686018427387904 := ⟨by omega, by omega⟩
    have t2 : 0 < K + 2 ∧ K + 2 < 4611686018427387904 := ⟨by omega, by omega⟩
    obtain ⟨v1, v2, v3⟩ : IntKind.i64.wrap (K + 1) = K + 1 ∧ IntKind.i64.wrap (K + 1 + 1) = K + 2 ∧ IntKind.i64.wrap (K + 2 + 1) = K + 3 := ⟨(wr _ (by omega) (by omega)).trans (by omega), (wr _ (by omega) (by omega)).trans (by omega), (wr _ (by omega) (by omega)).trans (by omega)⟩
    refine DW.skip ?_
    refine DW.seq ?_
    refine DW.block ?_
    refine DW.seq ?_
    refine DW.seq ?_
    refine DW.reg (by simp [hd, hlt', mb]; rfl) ?_
    refine DW.condF (by simp) ?_
    refine DW.skip ?_
    refine DW.seq ?_
    refine DW.reg (by simp [v1]; rfl) ?_
    refine DW.seq ?_
    refine DW.seq ?_
    refine DW.drawn mixed (by kernel_rfl) ?_
    refine RegD.addN 6 (by simp [hd, hlt', mb]; (first | done | exact ⟨rfl, rfl⟩ | rfl)) ?_
    refine RegD.cert (Cert.callA rfl (by simp) rfl (by decide) (by simp [hd, hlt', mb]; exact ⟨rfl, rfl⟩) (by simp [hd, hlt', mb]; rfl) (by exact markText_spec _ t1.1 t1.2) rfl (by simp) (by simp; rfl) rfl) ?_
    refine RegD.addN 1 (by simp [hd, hlt', mb]; (first | done | exact ⟨rfl, rfl⟩ | rfl)) ?_
    refine RegD.nil ⟨by kernel_rfl, ?_⟩
    refine DW.condF (by simp) ?_
    refine DW.skip ?_
    refine DW.seq ?_
    refine DW.reg (by simp [v2]; rfl) ?_
    refine DW.seq ?_
    refine DW.seq ?_
    refine DW.reg (by simp [hd, hlt', mb]; rfl) ?_
    refine DW.condF (by simp) ?_
    refine DW.skip ?_
    refine DW.reg (by simp [v3]; rfl) ?_
    refine DW.reg (by simp [w1]; rfl) ?_
    clear v1 v2 v3
    exact ⟨(i + 1, K + 3), ⟨hlt, by simp only; omega⟩, by simp only; omega, by simp, by simp, by simp, by rfl⟩
  · have hil : i = l.length := by
      have : ¬ i < l.length := by simpa using hc0
      omega
    subst hil
    rw [List.take_length] at hK
    refine DW.exit ?_
    refine DW.seq ?_
    refine DW.reg (by simp; rfl) ?_
    refine DW.ret ?_
    simp [Tryz.results86, hK]
theorem heldMemory_spec (a : Memory) (k : Int) (h0 : 0 < k) (h1 : k + (Memory.ctT a : Int) ≤ 1152921504606846976) (h : Row.sz a ≤ 2 ^ 36) : Spec Tryz.prog 23 [raMemory (Memory.mkT a k), ri k] [none] [di (k + (Memory.ctT a : Int))] [raMemory (Memory.mkT a k), ri k] := by
  refine Spec.intro Tryz.func23 rfl rfl Tryz.ntmps23 rfl (by simp) ?_
  have hz := Memory_sz a
  have hT : Memory.ctT a = ctL a.Cells := by simp only [Memory.mkT, Memory.ctT]
  have u0 : 0 < k ∧ k + (ctL a.Cells : Int) ≤ 1152921504606846976 ∧ szL a.Cells ≤ 2 ^ 36 ∧ ¬ (k + (ctL a.Cells : Int) < 0) := ⟨by omega, by omega, by omega, by omega⟩
  have hr : k + (Memory.ctT a : Int) = k + (ctL a.Cells : Int) := by omega
  refine DW.seq ?_
  refine DW.reg (by simp [Memory.mkT, u0.2.2.2]; rfl) ?_
  refine DW.seq ?_
  refine DW.regs ?_
  refine RegO.opN 3 (by simp [Memory.mkT, u0.2.2.2]; rfl) ?_
  refine RegO.step rfl (OpStep.callA rfl (by simp [Memory.mkT, u0.2.2.2]; exact ⟨rfl, rfl⟩) (by simp [Memory.mkT, u0.2.2.2]; rfl) (by exact heldCellS_spec a.Cells (k) u0.1 u0.2.1 u0.2.2.1) (by simp) (by simp [Memory.mkT, u0.2.2.2]; rfl)) ?_
  refine RegO.opN 1 (by simp [Memory.mkT, u0.2.2.2]; rfl) ?_
  refine RegO.nil ?_
  refine DW.seq ?_
  refine DW.seq ?_
  refine DW.reg (by simp [Memory.mkT, u0.2.2.2]; rfl) ?_
  refine DW.condF (by simp [Memory.mkT, u0.2.2.2]) ?_
  refine DW.skip ?_
  refine DW.seq ?_
  refine DW.reg (by simp [Memory.mkT, u0.2.2.2]; rfl) ?_
  refine DW.ret ?_
  simp [Tryz.results23, hr]
theorem heldStringS_spec (l : List ByteArray) (k : Int) (h0 : 0 < k) (h1 : k + (ctL l : Int) ≤ 1152921504606846976) (h : szL l ≤ 2 ^ 36) : Spec Tryz.prog 112 [.one (.r (.sl l.length (rR (mkL l k)))), ri k] [none] [di (k + (ctL l : Int))] [.one (.r (.sl l.length (rR (mkL l k)))), ri k] := by
  refine Spec.intro Tryz.func112 rfl rfl Tryz.ntmps112 rfl (by simp) ?_
  have hll := szL_len l
  refine DW.seq ?_
  refine DW.reg (by simp; rfl) ?_
  refine DW.seq ?_
  refine DW.seq ?_
  refine DW.reg (by simp; rfl) ?_
  refine DW.block ?_
  refine DW.loopS (α := Nat × Int) (fun p => p.1 ≤ l.length ∧ p.2 = k + (ctL (l.take p.1) : Int)) (fun p => l.length - p.1) (fun p => [(5, vi p.1), (1, vi p.2)]) (fun p => []) [(0, _)] [] [] (0, k) (⟨Nat.zero_le _, by simp⟩) (by simp; exact rfl) (by simp) (by simp) (by rfl) ?_
  rintro ⟨i, K⟩ ⟨hi, hK⟩
  simp only at hi hK ⊢
  refine DW.seq ?_
  refine DW.seq ?_
  refine DW.reg (by simp; rfl) ?_
  refine DW.condB (by simp; exact rfl) (fun hc0 => ?_) (fun hc0 => ?_)
  · have hlt : i < l.length := by simpa using hc0
    have hd := rR_get_ByteArray (mkL l k) i (by simpa using hlt)
    rw [mkL_get l k i hlt, ← hK] at hd
    have hs := szL_at l i hlt
    have hct := ctL_take l i hlt
    have hca := ctL_at l i hlt
    have hlt' : (i : Int) < l.length := by omega
    have w1 : IntKind.i64.wrap ((i : Int) + 1) = ((i + 1 : Nat) : Int) := (wr _ (by omega) (by omega)).trans (by omega)
    generalize l[i] = c at hd hs hct hca
    have hcc : Row.ct c = 1 := rfl
    replace hd : (rR (mkL l k))[i]? = some (RT.sc (.string (mt K))) := hd
    have t0 : 0 < K ∧ K < 4611686018427387904 := ⟨by omega, by omega⟩
    obtain v1 : IntKind.i64.wrap (K + 1) = K + 1 := (wr _ (by omega) (by omega)).trans (by omega)
    refine DW.skip ?_
    refine DW.seq ?_
    refine DW.block ?_
    refine DW.seq ?_
    refine DW.seq ?_
    refine DW.drawn mixed (by kernel_rfl) ?_
    refine RegD.addN 5 (by simp [hd, hlt', mb]; (first | done | exact ⟨rfl, rfl⟩ | rfl)) ?_
    refine RegD.cert (Cert.callA rfl (by simp) rfl (by decide) (by simp [hd, hlt', mb]; exact ⟨rfl, rfl⟩) (by simp [hd, hlt', mb]; rfl) (by exact markText_spec _ t0.1 t0.2) rfl (by simp) (by simp; rfl) rfl) ?_
    refine RegD.addN 1 (by simp [hd, hlt', mb]; (first | done | exact ⟨rfl, rfl⟩ | rfl)) ?_
    refine RegD.nil ⟨by kernel_rfl, ?_⟩
    refine DW.condF (by simp) ?_
    refine DW.skip ?_
    refine DW.reg (by simp [v1]; rfl) ?_
    refine DW.reg (by simp [w1]; rfl) ?_
    clear v1
    exact ⟨(i + 1, K + 1), ⟨hlt, by simp only; omega⟩, by simp only; omega, by simp, by simp, by simp, by rfl⟩
  · have hil : i = l.length := by
      have : ¬ i < l.length := by simpa using hc0
      omega
    subst hil
    rw [List.take_length] at hK
    refine DW.exit ?_
    refine DW.seq ?_
    refine DW.reg (by simp; rfl) ?_
    refine DW.ret ?_
    simp [Tryz.results112, hK]
theorem heldStepS_spec (l : List Step) (k : Int) (h0 : 0 < k) (h1 : k + (ctL l : Int) ≤ 1152921504606846976) (h : szL l ≤ 2 ^ 36) : Spec Tryz.prog 18 [.one (.r (.sl l.length (rR (mkL l k)))), ri k] [none] [di (k + (ctL l : Int))] [.one (.r (.sl l.length (rR (mkL l k)))), ri k] := by
  refine Spec.intro Tryz.func18 rfl rfl Tryz.ntmps18 rfl (by simp) ?_
  have hll := szL_len l
  refine DW.seq ?_
  refine DW.reg (by simp; rfl) ?_
  refine DW.seq ?_
  refine DW.seq ?_
  refine DW.reg (by simp; rfl) ?_
  refine DW.block ?_
  refine DW.loopS (α := Nat × Int) (fun p => p.1 ≤ l.length ∧ p.2 = k + (ctL (l.take p.1) : Int)) (fun p => l.length - p.1) (fun p => [(5, vi p.1), (1, vi p.2)]) (fun p => []) [(0, _)] [] [] (0, k) (⟨Nat.zero_le _, by simp⟩) (by simp; exact rfl) (by simp) (by simp) (by rfl) ?_
  rintro ⟨i, K⟩ ⟨hi, hK⟩
  simp only at hi hK ⊢
  refine DW.seq ?_
  refine DW.seq ?_
  refine DW.reg (by simp; rfl) ?_
  refine DW.condB (by simp; exact rfl) (fun hc0 => ?_) (fun hc0 => ?_)
  · have hlt : i < l.length := by simpa using hc0
    have hd := rR_drop_Step (mkL l k) i (by simpa using hlt)
    rw [mkL_get l k i hlt, ← hK] at hd
    have hs := szL_at l i hlt
    have hct := ctL_take l i hlt
    have hca := ctL_at l i hlt
    have hlt' : (i : Int) < l.length := by omega
    have w1 : IntKind.i64.wrap ((i : Int) + 1) = ((i + 1 : Nat) : Int) := (wr _ (by omega) (by omega)).trans (by omega)
    generalize l[i] = c at hd hs hct hca
    have hcc := Step_ct c
    have hcs := Step_sz c
    rw [Step_mk] at hd
    have t0 : 0 < K ∧ K < 4611686018427387904 := ⟨by omega, by omega⟩
    have t1 : 0 < K + 1 ∧ K + 1 < 4611686018427387904 := ⟨by omega, by omega⟩
    have t2 : 0 < K + 2 ∧ K + 2 < 4611686018427387904 := ⟨by omega, by omega⟩
    obtain ⟨v1, v2, v3⟩ : IntKind.i64.wrap (K + 1) = K + 1 ∧ IntKind.i64.wrap (K + 1 + 1) = K + 2 ∧ IntKind.i64.wrap (K + 2 + 1) = K + 3 := ⟨(wr _ (by omega) (by omega)).trans (by omega), (wr _ (by omega) (by omega)).trans (by omega), (wr _ (by omega) (by omega)).trans (by omega)⟩
    refine DW.skip ?_
    refine DW.seq ?_
    refine DW.block ?_
    refine DW.seq ?_
    refine DW.seq ?_
    refine DW.reg (by simp [hd, hlt', mb]; rfl) ?_
    refine DW.condF (by simp) ?_
    refine DW.skip ?_
    refine DW.seq ?_
    refine DW.reg (by simp [v1]; rfl) ?_
    refine DW.seq ?_
    refine DW.seq ?_
    refine DW.reg (by simp [hd, hlt', mb]; rfl) ?_
    refine DW.condF (by simp) ?_
    refine DW.skip ?_
    refine DW.seq ?_
    refine DW.reg (by simp [v2]; rfl) ?_
    refine DW.seq ?_
    refine DW.seq ?_
    refine DW.drawn mixed (by kernel_rfl) ?_
    refine RegD.addN 6 (by simp [hd, hlt', mb]; (first | done | exact ⟨rfl, rfl⟩ | rfl)) ?_
    refine RegD.cert (Cert.callA rfl (by simp) rfl (by decide) (by simp [hd, hlt', mb]; exact ⟨rfl, rfl⟩) (by simp [hd, hlt', mb]; rfl) (by exact markText_spec _ t2.1 t2.2) rfl (by simp) (by simp; rfl) rfl) ?_
    refine RegD.addN 1 (by simp [hd, hlt', mb]; (first | done | exact ⟨rfl, rfl⟩ | rfl)) ?_
    refine RegD.nil ⟨by kernel_rfl, ?_⟩
    refine DW.condF (by simp) ?_
    refine DW.skip ?_
    refine DW.reg (by simp [v3]; rfl) ?_
    refine DW.reg (by simp [w1]; rfl) ?_
    clear v1 v2 v3
    exact ⟨(i + 1, K + 3), ⟨hlt, by simp only; omega⟩, by simp only; omega, by simp, by simp, by simp, by rfl⟩
  · have hil : i = l.length := by
      have : ¬ i < l.length := by simpa using hc0
      omega
    subst hil
    rw [List.take_length] at hK
    refine DW.exit ?_
    refine DW.seq ?_
    refine DW.reg (by simp; rfl) ?_
    refine DW.ret ?_
    simp [Tryz.results18, hK]
theorem heldSealingS_spec (l : List Sealing) (k : Int) (h0 : 0 < k) (h1 : k + (ctL l : Int) ≤ 1152921504606846976) (h : szL l ≤ 2 ^ 36) : Spec Tryz.prog 93 [.one (.r (.sl l.length (rR (mkL l k)))), ri k] [none] [di (k + (ctL l : Int))] [.one (.r (.sl l.length (rR (mkL l k)))), ri k] := by
  refine Spec.intro Tryz.func93 rfl rfl Tryz.ntmps93 rfl (by simp) ?_
  have hll := szL_len l
  refine DW.seq ?_
  refine DW.reg (by simp; rfl) ?_
  refine DW.seq ?_
  refine DW.seq ?_
  refine DW.reg (by simp; rfl) ?_
  refine DW.block ?_
  refine DW.loopS (α := Nat × Int) (fun p => p.1 ≤ l.length ∧ p.2 = k + (ctL (l.take p.1) : Int)) (fun p => l.length - p.1) (fun p => [(5, vi p.1), (1, vi p.2)]) (fun p => []) [(0, _)] [] [] (0, k) (⟨Nat.zero_le _, by simp⟩) (by simp; exact rfl) (by simp) (by simp) (by rfl) ?_
  rintro ⟨i, K⟩ ⟨hi, hK⟩
  simp only at hi hK ⊢
  refine DW.seq ?_
  refine DW.seq ?_
  refine DW.reg (by simp; rfl) ?_
  refine DW.condB (by simp; exact rfl) (fun hc0 => ?_) (fun hc0 => ?_)
  · have hlt : i < l.length := by simpa using hc0
    have hd := rR_drop_Sealing (mkL l k) i (by simpa using hlt)
    rw [mkL_get l k i hlt, ← hK] at hd
    have hs := szL_at l i hlt
    have hct := ctL_take l i hlt
    have hca := ctL_at l i hlt
    have hlt' : (i : Int) < l.length := by omega
    have w1 : IntKind.i64.wrap ((i : Int) + 1) = ((i + 1 : Nat) : Int) := (wr _ (by omega) (by omega)).trans (by omega)
    generalize l[i] = c at hd hs hct hca
    have hcc := Sealing_ct c
    have hcs := Sealing_sz c
    rw [Sealing_mk] at hd
    have t0 : 0 < K ∧ K < 4611686018427387904 := ⟨by omega, by omega⟩
    have t1 : 0 < K + 1 ∧ K + 1 < 4611686018427387904 := ⟨by omega, by omega⟩
    have t2 : 0 < K + 2 ∧ K + 2 < 4611686018427387904 := ⟨by omega, by omega⟩
    obtain ⟨v1, v2, v3⟩ : IntKind.i64.wrap (K + 1) = K + 1 ∧ IntKind.i64.wrap (K + 1 + 1) = K + 2 ∧ IntKind.i64.wrap (K + 2 + 1) = K + 3 := ⟨(wr _ (by omega) (by omega)).trans (by omega), (wr _ (by omega) (by omega)).trans (by omega), (wr _ (by omega) (by omega)).trans (by omega)⟩
    refine DW.skip ?_
    refine DW.seq ?_
    refine DW.block ?_
    refine DW.seq ?_
    refine DW.seq ?_
    refine DW.drawn mixed (by kernel_rfl) ?_
    refine RegD.addN 6 (by simp [hd, hlt', mb]; (first | done | exact ⟨rfl, rfl⟩ | rfl)) ?_
    refine RegD.cert (Cert.callA rfl (by simp) rfl (by decide) (by simp [hd, hlt', mb]; exact ⟨rfl, rfl⟩) (by simp [hd, hlt', mb]; rfl) (by exact markText_spec _ t0.1 t0.2) rfl (by simp) (by simp; rfl) rfl) ?_
    refine RegD.addN 1 (by simp [hd, hlt', mb]; (first | done | exact ⟨rfl, rfl⟩ | rfl)) ?_
    refine RegD.nil ⟨by kernel_rfl, ?_⟩
    refine DW.condF (by simp) ?_
    refine DW.skip ?_
    refine DW.seq ?_
    refine DW.reg (by simp [v1]; rfl) ?_
    refine DW.seq ?_
    refine DW.seq ?_
    refine DW.drawn mixed (by kernel_rfl) ?_
    refine RegD.addN 6 (by simp [hd, hlt', mb]; (first | done | exact ⟨rfl, rfl⟩ | rfl)) ?_
    refine RegD.cert (Cert.callA rfl (by simp) rfl (by decide) (by simp [hd, hlt', mb]; exact ⟨rfl, rfl⟩) (by simp [hd, hlt', mb]; rfl) (by exact markText_spec _ t1.1 t1.2) rfl (by simp) (by simp; rfl) rfl) ?_
    refine RegD.addN 1 (by simp [hd, hlt', mb]; (first | done | exact ⟨rfl, rfl⟩ | rfl)) ?_
    refine RegD.nil ⟨by kernel_rfl, ?_⟩
    refine DW.condF (by simp) ?_
    refine DW.skip ?_
    refine DW.seq ?_
    refine DW.reg (by simp [v2]; rfl) ?_
    refine DW.seq ?_
    refine DW.seq ?_
    refine DW.drawn mixed (by kernel_rfl) ?_
    refine RegD.addN 6 (by simp [hd, hlt', mb]; (first | done | exact ⟨rfl, rfl⟩ | rfl)) ?_
    refine RegD.cert (Cert.callA rfl (by simp) rfl (by decide) (by simp [hd, hlt', mb]; exact ⟨rfl, rfl⟩) (by simp [hd, hlt', mb]; rfl) (by exact markText_spec _ t2.1 t2.2) rfl (by simp) (by simp; rfl) rfl) ?_
    refine RegD.addN 1 (by simp [hd, hlt', mb]; (first | done | exact ⟨rfl, rfl⟩ | rfl)) ?_
    refine RegD.nil ⟨by kernel_rfl, ?_⟩
    refine DW.condF (by simp) ?_
    refine DW.skip ?_
    refine DW.reg (by simp [v3]; rfl) ?_
    refine DW.reg (by simp [w1]; rfl) ?_
    clear v1 v2 v3
    exact ⟨(i + 1, K + 3), ⟨hlt, by simp only; omega⟩, by simp only; omega, by simp, by simp, by simp, by rfl⟩
  · have hil : i = l.length := by
      have : ¬ i < l.length := by simpa using hc0
      omega
    subst hil
    rw [List.take_length] at hK
    refine DW.exit ?_
    refine DW.seq ?_
    refine DW.reg (by simp; rfl) ?_
    refine DW.ret ?_
    simp [Tryz.results93, hK]
theorem heldJobS_spec (l : List Job) (k : Int) (h0 : 0 < k) (h1 : k + (ctL l : Int) ≤ 1152921504606846976) (h : szL l ≤ 2 ^ 36) : Spec Tryz.prog 92 [.one (.r (.sl l.length (rR (mkL l k)))), ri k] [none] [di (k + (ctL l : Int))] [.one (.r (.sl l.length (rR (mkL l k)))), ri k] := by
  refine Spec.intro Tryz.func92 rfl rfl Tryz.ntmps92 rfl (by simp) ?_
  have hll := szL_len l
  refine DW.seq ?_
  refine DW.reg (by simp; rfl) ?_
  refine DW.seq ?_
  refine DW.seq ?_
  refine DW.reg (by simp; rfl) ?_
  refine DW.block ?_
  refine DW.loopS (α := Nat × Int) (fun p => p.1 ≤ l.length ∧ p.2 = k + (ctL (l.take p.1) : Int)) (fun p => l.length - p.1) (fun p => [(5, vi p.1), (1, vi p.2)]) (fun p => []) [(0, _)] [] [] (0, k) (⟨Nat.zero_le _, by simp⟩) (by simp; exact rfl) (by simp) (by simp) (by rfl) ?_
  rintro ⟨i, K⟩ ⟨hi, hK⟩
  simp only at hi hK ⊢
  refine DW.seq ?_
  refine DW.seq ?_
  refine DW.reg (by simp; rfl) ?_
  refine DW.condB (by simp; exact rfl) (fun hc0 => ?_) (fun hc0 => ?_)
  · have hlt : i < l.length := by simpa using hc0
    have hd := rR_drop_Job (mkL l k) i (by simpa using hlt)
    rw [mkL_get l k i hlt, ← hK] at hd
    have hs := szL_at l i hlt
    have hct := ctL_take l i hlt
    have hca := ctL_at l i hlt
    have hlt' : (i : Int) < l.length := by omega
    have w1 : IntKind.i64.wrap ((i : Int) + 1) = ((i + 1 : Nat) : Int) := (wr _ (by omega) (by omega)).trans (by omega)
    generalize l[i] = c at hd hs hct hca
    have hcc := Job_ct c
    have hcs := Job_sz c
    rw [Job_mk] at hd
    have hn0 := Ask_sz c.Ask
    have hn1 := Result_sz c.Result
    have t0 : 0 < K ∧ K < 4611686018427387904 := ⟨by omega, by omega⟩
    have t1 : 0 < K + 1 ∧ K + 1 < 4611686018427387904 := ⟨by omega, by omega⟩
    have t2 : 0 < K + 2 ∧ K + 2 < 4611686018427387904 := ⟨by omega, by omega⟩
    have t3 : 0 < K + 3 ∧ K + 3 < 4611686018427387904 := ⟨by omega, by omega⟩
    have t4 : 0 < K + 4 ∧ K + 4 < 4611686018427387904 := ⟨by omega, by omega⟩
    have t5 : 0 < K + 5 ∧ K + 5 < 4611686018427387904 := ⟨by omega, by omega⟩
    have t6 : 0 < K + 6 ∧ K + 6 < 4611686018427387904 := ⟨by omega, by omega⟩
    have t7 : 0 < K + 7 ∧ K + 7 < 4611686018427387904 := ⟨by omega, by omega⟩
    have t8 : 0 < K + 8 ∧ K + 8 < 4611686018427387904 := ⟨by omega, by omega⟩
    have t9 : 0 < K + 9 ∧ K + 9 < 4611686018427387904 := ⟨by omega, by omega⟩
    have u1 : 0 < K + 10 ∧ K + 10 + (ctL c.Result.Names : Int) ≤ 1152921504606846976 ∧ szL c.Result.Names ≤ 2 ^ 36 ∧ ¬ (K + 10 + (ctL c.Result.Names : Int) < 0) := ⟨by omega, by omega, by omega, by omega⟩
    have u2 : 0 < K + 10 + (ctL c.Result.Names : Int) ∧ K + 10 + (ctL c.Result.Names : Int) + (ctL c.Steps : Int) ≤ 1152921504606846976 ∧ szL c.Steps ≤ 2 ^ 36 ∧ ¬ (K + 10 + (ctL c.Result.Names : Int) + (ctL c.Steps : Int) < 0) := ⟨by omega, by omega, by omega, by omega⟩
    have u3 : 0 < K + 10 + (ctL c.Result.Names : Int) + (ctL c.Steps : Int) ∧ K + 10 + (ctL c.Result.Names : Int) + (ctL c.Steps : Int) + (ctL c.Seals : Int) ≤ 1152921504606846976 ∧ szL c.Seals ≤ 2 ^ 36 ∧ ¬ (K + 10 + (ctL c.Result.Names : Int) + (ctL c.Steps : Int) + (ctL c.Seals : Int) < 0) := ⟨by omega, by omega, by omega, by omega⟩
    have t10 : 0 < K + 10 + (ctL c.Result.Names : Int) + (ctL c.Steps : Int) + (ctL c.Seals : Int) ∧ K + 10 + (ctL c.Result.Names : Int) + (ctL c.Steps : Int) + (ctL c.Seals : Int) < 4611686018427387904 := ⟨by omega, by omega⟩
    have t11 : 0 < K + 11 + (ctL c.Result.Names : Int) + (ctL c.Steps : Int) + (ctL c.Seals : Int) ∧ K + 11 + (ctL c.Result.Names : Int) + (ctL c.Steps : Int) + (ctL c.Seals : Int) < 4611686018427387904 := ⟨by omega, by omega⟩
    have t12 : 0 < K + 12 + (ctL c.Result.Names : Int) + (ctL c.Steps : Int) + (ctL c.Seals : Int) ∧ K + 12 + (ctL c.Result.Names : Int) + (ctL c.Steps : Int) + (ctL c.Seals : Int) < 4611686018427387904 := ⟨by omega, by omega⟩
    obtain ⟨v1, v2, v3, v4, v5, v6, v7, v8, v9, v10, v11, v12, v13⟩ : IntKind.i64.wrap (K + 1) = K + 1 ∧ IntKind.i64.wrap (K + 1 + 1) = K + 2 ∧ IntKind.i64.wrap (K + 2 + 1) = K + 3 ∧ IntKind.i64.wrap (K + 3 + 1) = K + 4 ∧ IntKind.i64.wrap (K + 4 + 1) = K + 5 ∧ IntKind.i64.wrap (K + 5 + 1) = K + 6 ∧ IntKind.i64.wrap (K + 6 + 1) = K + 7 ∧ IntKind.i64.wrap (K + 7 + 1) = K + 8 ∧ IntKind.i64.wrap (K + 8 + 1) = K + 9 ∧ IntKind.i64.wrap (K + 9 + 1) = K + 10 ∧ IntKind.i64.wrap (K + 10 + (ctL c.Result.Names : Int) + (ctL c.Steps : Int) + (ctL c.Seals : Int) + 1) = K + 11 + (ctL c.Result.Names : Int) + (ctL c.Steps : Int) + (ctL c.Seals : Int) ∧ IntKind.i64.wrap (K + 11 + (ctL c.Result.Names : Int) + (ctL c.Steps : Int) + (ctL c.Seals : Int) + 1) = K + 12 + (ctL c.Result.Names : Int) + (ctL c.Steps : Int) + (ctL c.Seals : Int) ∧ IntKind.i64.wrap (K + 12 + (ctL c.Result.Names : Int) + (ctL c.Steps : Int) + (ctL c.Seals : Int) + 1) = K + 13 + (ctL c.Result.Names : Int) + (ctL c.Steps : Int) + (ctL c.Seals : Int) := ⟨(wr _ (by omega) (by omega)).trans (by omega), (wr _ (by omega) (by omega)).trans (by omega), (wr _ (by omega) (by omega)).trans (by omega), (wr _ (by omega) (by omega)).trans (by omega), (wr _ (by omega) (by omega)).trans (by omega), (wr _ (by omega) (by omega)).trans (by omega), (wr _ (by omega) (by omega)).trans (by omega), (wr _ (by omega) (by omega)).trans (by omega), (wr _ (by omega) (by omega)).trans (by omega), (wr _ (by omega) (by omega)).trans (by omega), (wr _ (by omega) (by omega)).trans (by omega), (wr _ (by omega) (by omega)).trans (by omega), (wr _ (by omega) (by omega)).trans (by omega)⟩
    have z1 := u1.2.2.2
    have z2 := u2.2.2.2
    have z3 := u3.2.2.2
    refine DW.skip ?_
    refine DW.seq ?_
    refine DW.block ?_
    refine DW.seq ?_
    refine DW.seq ?_
    refine DW.reg (by simp [hd, hlt', mb]; rfl) ?_
    refine DW.condF (by simp) ?_
    refine DW.skip ?_
    refine DW.seq ?_
    refine DW.reg (by simp [v1]; rfl) ?_
    refine DW.seq ?_
    refine DW.seq ?_
    refine DW.drawn mixed (by kernel_rfl) ?_
    refine RegD.addN 7 (by simp [hd, hlt', mb]; (first | done | exact ⟨rfl, rfl⟩ | rfl)) ?_
    refine RegD.cert (Cert.callA rfl (by simp) rfl (by decide) (by simp [hd, hlt', mb]; exact ⟨rfl, rfl⟩) (by simp [hd, hlt', mb]; rfl) (by exact markText_spec _ t1.1 t1.2) rfl (by simp) (by simp; rfl) rfl) ?_
    refine RegD.addN 1 (by simp [hd, hlt', mb]; (first | done | exact ⟨rfl, rfl⟩ | rfl)) ?_
    refine RegD.nil ⟨by kernel_rfl, ?_⟩
    refine DW.condF (by simp) ?_
    refine DW.skip ?_
    refine DW.seq ?_
    refine DW.reg (by simp [v2]; rfl) ?_
    refine DW.seq ?_
    refine DW.seq ?_
    refine DW.drawn mixed (by kernel_rfl) ?_
    refine RegD.addN 7 (by simp [hd, hlt', mb]; (first | done | exact ⟨rfl, rfl⟩ | rfl)) ?_
    refine RegD.cert (Cert.callA rfl (by simp) rfl (by decide) (by simp [hd, hlt', mb]; exact ⟨rfl, rfl⟩) (by simp [hd, hlt', mb]; rfl) (by exact markText_spec _ t2.1 t2.2) rfl (by simp) (by simp; rfl) rfl) ?_
    refine RegD.addN 1 (by simp [hd, hlt', mb]; (first | done | exact ⟨rfl, rfl⟩ | rfl)) ?_
    refine RegD.nil ⟨by kernel_rfl, ?_⟩
    refine DW.condF (by simp) ?_
    refine DW.skip ?_
    refine DW.seq ?_
    refine DW.reg (by simp [v3]; rfl) ?_
    refine DW.seq ?_
    refine DW.seq ?_
    refine DW.reg (by simp [hd, hlt', mb]; rfl) ?_
    refine DW.condF (by simp) ?_
    refine DW.skip ?_
    refine DW.seq ?_
    refine DW.reg (by simp [v4]; rfl) ?_
    refine DW.seq ?_
    refine DW.seq ?_
    refine DW.reg (by simp [hd, hlt', mb]; rfl) ?_
    refine DW.condF (by simp) ?_
    refine DW.skip ?_
    refine DW.seq ?_
    refine DW.reg (by simp [v5]; rfl) ?_
    refine DW.seq ?_
    refine DW.seq ?_
    refine DW.drawn mixed (by kernel_rfl) ?_
    refine RegD.addN 7 (by simp [hd, hlt', mb]; (first | done | exact ⟨rfl, rfl⟩ | rfl)) ?_
    refine RegD.cert (Cert.callA rfl (by simp) rfl (by decide) (by simp [hd, hlt', mb]; exact ⟨rfl, rfl⟩) (by simp [hd, hlt', mb]; rfl) (by exact markText_spec _ t5.1 t5.2) rfl (by simp) (by simp; rfl) rfl) ?_
    refine RegD.addN 1 (by simp [hd, hlt', mb]; (first | done | exact ⟨rfl, rfl⟩ | rfl)) ?_
    refine RegD.nil ⟨by kernel_rfl, ?_⟩
    refine DW.condF (by simp) ?_
    refine DW.skip ?_
    refine DW.seq ?_
    refine DW.reg (by simp [v6]; rfl) ?_
    refine DW.seq ?_
    refine DW.seq ?_
    refine DW.reg (by simp [hd, hlt', mb]; rfl) ?_
    refine DW.condF (by simp) ?_
    refine DW.skip ?_
    refine DW.seq ?_
    refine DW.reg (by simp [v7]; rfl) ?_
    refine DW.seq ?_
    refine DW.seq ?_
    refine DW.drawn mixed (by kernel_rfl) ?_
    refine RegD.addN 7 (by simp [hd, hlt', mb]; (first | done | exact ⟨rfl, rfl⟩ | rfl)) ?_
    refine RegD.cert (Cert.callA rfl (by simp) rfl (by decide) (by simp [hd, hlt', mb]; exact ⟨rfl, rfl⟩) (by simp [hd, hlt', mb]; rfl) (by exact markText_spec _ t7.1 t7.2) rfl (by simp) (by simp; rfl) rfl) ?_
    refine RegD.addN 1 (by simp [hd, hlt', mb]; (first | done | exact ⟨rfl, rfl⟩ | rfl)) ?_
    refine RegD.nil ⟨by kernel_rfl, ?_⟩
    refine DW.condF (by simp) ?_
    refine DW.skip ?_
    refine DW.seq ?_
    refine DW.reg (by simp [v8]; rfl) ?_
    refine DW.seq ?_
    refine DW.seq ?_
    refine DW.reg (by simp [hd, hlt', mb]; rfl) ?_
    refine DW.condF (by simp) ?_
    refine DW.skip ?_
    refine DW.seq ?_
    refine DW.reg (by simp [v9]; rfl) ?_
    refine DW.seq ?_
    refine DW.seq ?_
    refine DW.reg (by simp [hd, hlt', mb]; rfl) ?_
    refine DW.condF (by simp) ?_
    refine DW.skip ?_
    refine DW.seq ?_
    refine DW.reg (by simp [v10]; rfl) ?_
    refine DW.seq ?_
    refine DW.regs ?_
    refine RegO.opN 7 (by simp [hd, hlt', mb]; rfl) ?_
    refine RegO.step rfl (OpStep.callA rfl (by simp [hd, hlt', mb]; exact ⟨rfl, rfl⟩) (by simp [hd, hlt', mb]; rfl) (by exact heldStringS_spec c.Result.Names (K + 10) u1.1 u1.2.1 u1.2.2.1) (by simp) (by simp [hd, hlt', mb]; rfl)) ?_
    refine RegO.opN 1 (by simp [hd, hlt', mb]; rfl) ?_
    refine RegO.nil ?_
    refine DW.seq ?_
    refine DW.seq ?_
    refine DW.reg (by simp [z1, z2, z3]; rfl) ?_
    refine DW.condF (by simp [z1, z2, z3]) ?_
    refine DW.skip ?_
    refine DW.seq ?_
    refine DW.regs ?_
    refine RegO.opN 6 (by simp [hd, hlt', mb]; rfl) ?_
    refine RegO.step rfl (OpStep.callA rfl (by simp [hd, hlt', mb]; exact ⟨rfl, rfl⟩) (by simp [hd, hlt', mb]; rfl) (by exact heldStepS_spec c.Steps (K + 10 + (ctL c.Result.Names : Int)) u2.1 u2.2.1 u2.2.2.1) (by simp) (by simp [hd, hlt', mb]; rfl)) ?_
    refine RegO.opN 1 (by simp [hd, hlt', mb]; rfl) ?_
    refine RegO.nil ?_
    refine DW.seq ?_
    refine DW.seq ?_
    refine DW.reg (by simp [z1, z2, z3]; rfl) ?_
    refine DW.condF (by simp [z1, z2, z3]) ?_
    refine DW.skip ?_
    refine DW.seq ?_
    refine DW.regs ?_
    refine RegO.opN 6 (by simp [hd, hlt', mb]; rfl) ?_
    refine RegO.step rfl (OpStep.callA rfl (by simp [hd, hlt', mb]; exact ⟨rfl, rfl⟩) (by simp [hd, hlt', mb]; rfl) (by exact heldSealingS_spec c.Seals (K + 10 + (ctL c.Result.Names : Int) + (ctL c.Steps : Int)) u3.1 u3.2.1 u3.2.2.1) (by simp) (by simp [hd, hlt', mb]; rfl)) ?_
    refine RegO.opN 1 (by simp [hd, hlt', mb]; rfl) ?_
    refine RegO.nil ?_
    refine DW.seq ?_
    refine DW.seq ?_
    refine DW.reg (by simp [z1, z2, z3]; rfl) ?_
    refine DW.condF (by simp [z1, z2, z3]) ?_
    refine DW.skip ?_
    refine DW.seq ?_
    refine DW.seq ?_
    refine DW.reg (by simp [hd, hlt', mb]; rfl) ?_
    refine DW.condF (by simp) ?_
    refine DW.skip ?_
    refine DW.seq ?_
    refine DW.reg (by simp [v11]; rfl) ?_
    refine DW.seq ?_
    refine DW.seq ?_
    refine DW.reg (by simp [hd, hlt', mb]; rfl) ?_
    refine DW.condF (by simp) ?_
    refine DW.skip ?_
    refine DW.seq ?_
    refine DW.reg (by simp [v12]; rfl) ?_
    refine DW.seq ?_
    refine DW.seq ?_
    refine DW.reg (by simp [hd, hlt', mb]; rfl) ?_
    refine DW.condF (by simp) ?_
    refine DW.skip ?_
    refine DW.reg (by simp [v13]; rfl) ?_
    refine DW.reg (by simp [w1]; rfl) ?_
    clear v1 v2 v3 v4 v5 v6 v7 v8 v9 v10 v11 v12 v13
    exact ⟨(i + 1, K + 13 + (ctL c.Result.Names : Int) + (ctL c.Steps : Int) + (ctL c.Seals : Int)), ⟨hlt, by simp only; omega⟩, by simp only; omega, by simp, by simp, by simp, by rfl⟩
  · have hil : i = l.length := by
      have : ¬ i < l.length := by simpa using hc0
      omega
    subst hil
    rw [List.take_length] at hK
    refine DW.exit ?_
    refine DW.seq ?_
    refine DW.reg (by simp; rfl) ?_
    refine DW.ret ?_
    simp [Tryz.results92, hK]
theorem heldSystem_spec (a : System) (k : Int) (h0 : 0 < k) (h1 : k + (System.ctT a : Int) ≤ 1152921504606846976) (h : Row.sz a ≤ 2 ^ 36) : Spec Tryz.prog 28 [raSystem (System.mkT a k), ri k] [none] [di (k + (System.ctT a : Int))] [raSystem (System.mkT a k), ri k] := by
  refine Spec.intro Tryz.func28 rfl rfl Tryz.ntmps28 rfl (by simp) ?_
  have hz := System_sz a
  have hT : System.ctT a = Memory.ctT a.Memory + ctL a.Jobs + ctL a.Seals := by simp only [System.mkT, System.ctT, Memory.mkT, Memory.ctT] <;> omega
  have hzGeo := Geo_sz a.Geo
  have hzMemory := Memory_sz a.Memory
  have u0 : 0 < k ∧ k + (Memory.ctT a.Memory : Int) ≤ 1152921504606846976 ∧ Row.sz a.Memory ≤ 2 ^ 36 ∧ ¬ (k + (Memory.ctT a.Memory : Int) < 0) := ⟨by omega, by omega, by omega, by omega⟩
  have u1 : 0 < k + (Memory.ctT a.Memory : Int) ∧ k + (Memory.ctT a.Memory : Int) + (ctL a.Jobs : Int) ≤ 1152921504606846976 ∧ szL a.Jobs ≤ 2 ^ 36 ∧ ¬ (k + (Memory.ctT a.Memory : Int) + (ctL a.Jobs : Int) < 0) := ⟨by omega, by omega, by omega, by omega⟩
  have u2 : 0 < k + (Memory.ctT a.Memory : Int) + (ctL a.Jobs : Int) ∧ k + (Memory.ctT a.Memory : Int) + (ctL a.Jobs : Int) + (ctL a.Seals : Int) ≤ 1152921504606846976 ∧ szL a.Seals ≤ 2 ^ 36 ∧ ¬ (k + (Memory.ctT a.Memory : Int) + (ctL a.Jobs : Int) + (ctL a.Seals : Int) < 0) := ⟨by omega, by omega, by omega, by omega⟩
  have hr : k + (System.ctT a : Int) = k + (Memory.ctT a.Memory : Int) + (ctL a.Jobs : Int) + (ctL a.Seals : Int) := by omega
  refine DW.seq ?_
  refine DW.reg (by simp [System.mkT, u0.2.2.2, u1.2.2.2, u2.2.2.2]; rfl) ?_
  refine DW.seq ?_
  refine DW.regs ?_
  refine RegO.opN 3 (by simp [System.mkT, u0.2.2.2, u1.2.2.2, u2.2.2.2]; rfl) ?_
  refine RegO.step rfl (OpStep.callA rfl (by simp [System.mkT, u0.2.2.2, u1.2.2.2, u2.2.2.2]; exact ⟨rfl, rfl⟩) (by simp [System.mkT, u0.2.2.2, u1.2.2.2, u2.2.2.2]; rfl) (by exact (by have h := heldMemory_spec a.Memory (k) u0.1 u0.2.1 u0.2.2.1; simp only [raMemory, Memory.mkT, mkL_len] at h; exact h)) (by simp) (by simp [System.mkT, u0.2.2.2, u1.2.2.2, u2.2.2.2]; rfl)) ?_
  refine RegO.opN 1 (by simp [System.mkT, u0.2.2.2, u1.2.2.2, u2.2.2.2]; rfl) ?_
  refine RegO.nil ?_
  refine DW.seq ?_
  refine DW.seq ?_
  refine DW.reg (by simp [System.mkT, u0.2.2.2, u1.2.2.2, u2.2.2.2]; rfl) ?_
  refine DW.condF (by simp [System.mkT, u0.2.2.2, u1.2.2.2, u2.2.2.2]) ?_
  refine DW.skip ?_
  refine DW.seq ?_
  refine DW.regs ?_
  refine RegO.opN 3 (by simp [System.mkT, u0.2.2.2, u1.2.2.2, u2.2.2.2]; rfl) ?_
  refine RegO.step rfl (OpStep.callA rfl (by simp [System.mkT, u0.2.2.2, u1.2.2.2, u2.2.2.2]; exact ⟨rfl, rfl⟩) (by simp [System.mkT, u0.2.2.2, u1.2.2.2, u2.2.2.2]; rfl) (by exact heldJobS_spec a.Jobs (k + (Memory.ctT a.Memory : Int)) u1.1 u1.2.1 u1.2.2.1) (by simp) (by simp [System.mkT, u0.2.2.2, u1.2.2.2, u2.2.2.2]; rfl)) ?_
  refine RegO.opN 1 (by simp [System.mkT, u0.2.2.2, u1.2.2.2, u2.2.2.2]; rfl) ?_
  refine RegO.nil ?_
  refine DW.seq ?_
  refine DW.seq ?_
  refine DW.reg (by simp [System.mkT, u0.2.2.2, u1.2.2.2, u2.2.2.2]; rfl) ?_
  refine DW.condF (by simp [System.mkT, u0.2.2.2, u1.2.2.2, u2.2.2.2]) ?_
  refine DW.skip ?_
  refine DW.seq ?_
  refine DW.regs ?_
  refine RegO.opN 3 (by simp [System.mkT, u0.2.2.2, u1.2.2.2, u2.2.2.2]; rfl) ?_
  refine RegO.step rfl (OpStep.callA rfl (by simp [System.mkT, u0.2.2.2, u1.2.2.2, u2.2.2.2]; exact ⟨rfl, rfl⟩) (by simp [System.mkT, u0.2.2.2, u1.2.2.2, u2.2.2.2]; rfl) (by exact heldSealingS_spec a.Seals (k + (Memory.ctT a.Memory : Int) + (ctL a.Jobs : Int)) u2.1 u2.2.1 u2.2.2.1) (by simp) (by simp [System.mkT, u0.2.2.2, u1.2.2.2, u2.2.2.2]; rfl)) ?_
  refine RegO.opN 1 (by simp [System.mkT, u0.2.2.2, u1.2.2.2, u2.2.2.2]; rfl) ?_
  refine RegO.nil ?_
  refine DW.seq ?_
  refine DW.seq ?_
  refine DW.reg (by simp [System.mkT, u0.2.2.2, u1.2.2.2, u2.2.2.2]; rfl) ?_
  refine DW.condF (by simp [System.mkT, u0.2.2.2, u1.2.2.2, u2.2.2.2]) ?_
  refine DW.skip ?_
  refine DW.seq ?_
  refine DW.reg (by simp [System.mkT, u0.2.2.2, u1.2.2.2, u2.2.2.2]; rfl) ?_
  refine DW.ret ?_
  simp [Tryz.results28, hr]
theorem heldItemS_spec (l : List Item) (k : Int) (h0 : 0 < k) (h1 : k + (ctL l : Int) ≤ 1152921504606846976) (h : szL l ≤ 2 ^ 36) : Spec Tryz.prog 147 [.one (.r (.sl l.length (rR (mkL l k)))), ri k] [none] [di (k + (ctL l : Int))] [.one (.r (.sl l.length (rR (mkL l k)))), ri k] := by
  refine Spec.intro Tryz.func147 rfl rfl Tryz.ntmps147 rfl (by simp) ?_
  have hll := szL_len l
  refine DW.seq ?_
  refine DW.reg (by simp; rfl) ?_
  refine DW.seq ?_
  refine DW.seq ?_
  refine DW.reg (by simp; rfl) ?_
  refine DW.block ?_
  refine DW.loopS (α := Nat × Int) (fun p => p.1 ≤ l.length ∧ p.2 = k + (ctL (l.take p.1) : Int)) (fun p => l.length - p.1) (fun p => [(5, vi p.1), (1, vi p.2)]) (fun p => []) [(0, _)] [] [] (0, k) (⟨Nat.zero_le _, by simp⟩) (by simp; exact rfl) (by simp) (by simp) (by rfl) ?_
  rintro ⟨i, K⟩ ⟨hi, hK⟩
  simp only at hi hK ⊢
  refine DW.seq ?_
  refine DW.seq ?_
  refine DW.reg (by simp; rfl) ?_
  refine DW.condB (by simp; exact rfl) (fun hc0 => ?_) (fun hc0 => ?_)
  · have hlt : i < l.length := by simpa using hc0
    have hd := rR_drop_Item (mkL l k) i (by simpa using hlt)
    rw [mkL_get l k i hlt, ← hK] at hd
    have hs := szL_at l i hlt
    have hct := ctL_take l i hlt
    have hca := ctL_at l i hlt
    have hlt' : (i : Int) < l.length := by omega
    have w1 : IntKind.i64.wrap ((i : Int) + 1) = ((i + 1 : Nat) : Int) := (wr _ (by omega) (by omega)).trans (by omega)
    generalize l[i] = c at hd hs hct hca
    have hcc := Item_ct c
    have hcs := Item_sz c
    rw [Item_mk] at hd
    have t0 : 0 < K ∧ K < 4611686018427387904 := ⟨by omega, by omega⟩
    have t1 : 0 < K + 1 ∧ K + 1 < 4611686018427387904 := ⟨by omega, by omega⟩
    have t2 : 0 < K + 2 ∧ K + 2 < 4611686018427387904 := ⟨by omega, by omega⟩
    obtain ⟨v1, v2, v3⟩ : IntKind.i64.wrap (K + 1) = K + 1 ∧ IntKind.i64.wrap (K + 1 + 1) = K + 2 ∧ IntKind.i64.wrap (K + 2 + 1) = K + 3 := ⟨(wr _ (by omega) (by omega)).trans (by omega), (wr _ (by omega) (by omega)).trans (by omega), (wr _ (by omega) (by omega)).trans (by omega)⟩
    refine DW.skip ?_
    refine DW.seq ?_
    refine DW.block ?_
    refine DW.seq ?_
    refine DW.seq ?_
    refine DW.drawn mixed (by kernel_rfl) ?_
    refine RegD.addN 6 (by simp [hd, hlt', mb]; (first | done | exact ⟨rfl, rfl⟩ | rfl)) ?_
    refine RegD.cert (Cert.callA rfl (by simp) rfl (by decide) (by simp [hd, hlt', mb]; exact ⟨rfl, rfl⟩) (by simp [hd, hlt', mb]; rfl) (by exact markText_spec _ t0.1 t0.2) rfl (by simp) (by simp; rfl) rfl) ?_
    refine RegD.addN 1 (by simp [hd, hlt', mb]; (first | done | exact ⟨rfl, rfl⟩ | rfl)) ?_
    refine RegD.nil ⟨by kernel_rfl, ?_⟩
    refine DW.condF (by simp) ?_
    refine DW.skip ?_
    refine DW.seq ?_
    refine DW.reg (by simp [v1]; rfl) ?_
    refine DW.seq ?_
    refine DW.seq ?_
    refine DW.reg (by simp [hd, hlt', mb]; rfl) ?_
    refine DW.condF (by simp) ?_
    refine DW.skip ?_
    refine DW.seq ?_
    refine DW.reg (by simp [v2]; rfl) ?_
    refine DW.seq ?_
    refine DW.seq ?_
    refine DW.drawn mixed (by kernel_rfl) ?_
    refine RegD.addN 6 (by simp [hd, hlt', mb]; (first | done | exact ⟨rfl, rfl⟩ | rfl)) ?_
    refine RegD.cert (Cert.callA rfl (by simp) rfl (by decide) (by simp [hd, hlt', mb]; exact ⟨rfl, rfl⟩) (by simp [hd, hlt', mb]; rfl) (by exact markText_spec _ t2.1 t2.2) rfl (by simp) (by simp; rfl) rfl) ?_
    refine RegD.addN 1 (by simp [hd, hlt', mb]; (first | done | exact ⟨rfl, rfl⟩ | rfl)) ?_
    refine RegD.nil ⟨by kernel_rfl, ?_⟩
    refine DW.condF (by simp) ?_
    refine DW.skip ?_
    refine DW.reg (by simp [v3]; rfl) ?_
    refine DW.reg (by simp [w1]; rfl) ?_
    clear v1 v2 v3
    exact ⟨(i + 1, K + 3), ⟨hlt, by simp only; omega⟩, by simp only; omega, by simp, by simp, by simp, by rfl⟩
  · have hil : i = l.length := by
      have : ¬ i < l.length := by simpa using hc0
      omega
    subst hil
    rw [List.take_length] at hK
    refine DW.exit ?_
    refine DW.seq ?_
    refine DW.reg (by simp; rfl) ?_
    refine DW.ret ?_
    simp [Tryz.results147, hK]
theorem heldViewS_spec (l : List View) (k : Int) (h0 : 0 < k) (h1 : k + (ctL l : Int) ≤ 1152921504606846976) (h : szL l ≤ 2 ^ 36) : Spec Tryz.prog 96 [.one (.r (.sl l.length (rR (mkL l k)))), ri k] [none] [di (k + (ctL l : Int))] [.one (.r (.sl l.length (rR (mkL l k)))), ri k] := by
  refine Spec.intro Tryz.func96 rfl rfl Tryz.ntmps96 rfl (by simp) ?_
  have hll := szL_len l
  refine DW.seq ?_
  refine DW.reg (by simp; rfl) ?_
  refine DW.seq ?_
  refine DW.seq ?_
  refine DW.reg (by simp; rfl) ?_
  refine DW.block ?_
  refine DW.loopS (α := Nat × Int) (fun p => p.1 ≤ l.length ∧ p.2 = k + (ctL (l.take p.1) : Int)) (fun p => l.length - p.1) (fun p => [(5, vi p.1), (1, vi p.2)]) (fun p => []) [(0, _)] [] [] (0, k) (⟨Nat.zero_le _, by simp⟩) (by simp; exact rfl) (by simp) (by simp) (by rfl) ?_
  rintro ⟨i, K⟩ ⟨hi, hK⟩
  simp only at hi hK ⊢
  refine DW.seq ?_
  refine DW.seq ?_
  refine DW.reg (by simp; rfl) ?_
  refine DW.condB (by simp; exact rfl) (fun hc0 => ?_) (fun hc0 => ?_)
  · have hlt : i < l.length := by simpa using hc0
    have hd := rR_drop_View (mkL l k) i (by simpa using hlt)
    rw [mkL_get l k i hlt, ← hK] at hd
    simp only [Nat.mul_one] at hd
    have hs := szL_at l i hlt
    have hct := ctL_take l i hlt
    have hca := ctL_at l i hlt
    have hlt' : (i : Int) < l.length := by omega
    have w1 : IntKind.i64.wrap ((i : Int) + 1) = ((i + 1 : Nat) : Int) := (wr _ (by omega) (by omega)).trans (by omega)
    generalize l[i] = c at hd hs hct hca
    have hcc := View_ct c
    have hcs := View_sz c
    rw [View_mk] at hd
    have u1 : 0 < K ∧ K + (ctL c.Items : Int) ≤ 1152921504606846976 ∧ szL c.Items ≤ 2 ^ 36 ∧ ¬ (K + (ctL c.Items : Int) < 0) := ⟨by omega, by omega, by omega, by omega⟩
    have z1 := u1.2.2.2
    refine DW.skip ?_
    refine DW.seq ?_
    refine DW.block ?_
    refine DW.seq ?_
    refine DW.regs ?_
    refine RegO.opN 6 (by simp [hd, hlt', mb]; rfl) ?_
    refine RegO.step rfl (OpStep.callA rfl (by simp [hd, hlt', mb]; exact ⟨rfl, rfl⟩) (by simp [hd, hlt', mb]; rfl) (by exact heldItemS_spec c.Items (K) u1.1 u1.2.1 u1.2.2.1) (by simp) (by simp [hd, hlt', mb]; rfl)) ?_
    refine RegO.opN 1 (by simp [hd, hlt', mb]; rfl) ?_
    refine RegO.nil ?_
    refine DW.seq ?_
    refine DW.reg (by simp [z1]; rfl) ?_
    refine DW.condF (by simp [z1]) ?_
    refine DW.skip ?_
    refine DW.reg (by simp [w1]; rfl) ?_
    exact ⟨(i + 1, K + (ctL c.Items : Int)), ⟨hlt, by simp only; omega⟩, by simp only; omega, by simp, by simp, by simp, by rfl⟩
  · have hil : i = l.length := by
      have : ¬ i < l.length := by simpa using hc0
      omega
    subst hil
    rw [List.take_length] at hK
    refine DW.exit ?_
    refine DW.seq ?_
    refine DW.reg (by simp; rfl) ?_
    refine DW.ret ?_
    simp [Tryz.results96, hK]
theorem heldWorld_spec (a : World) (k : Int) (h0 : 0 < k) (h1 : k + (World.ctT a : Int) ≤ 1152921504606846976) (h : Row.sz a ≤ 2 ^ 36) : Spec Tryz.prog 33 [raWorld (World.mkT a k), ri k] [none] [di (k + (World.ctT a : Int))] [raWorld (World.mkT a k), ri k] := by
  refine Spec.intro Tryz.func33 rfl rfl Tryz.ntmps33 rfl (by simp) ?_
  have hz := World_sz a
  have hT : World.ctT a = System.ctT a.System + ctL a.Views + ctL a.Hoped := by simp only [World.mkT, World.ctT, System.mkT, System.ctT] <;> omega
  have hzSystem := System_sz a.System
  have u0 : 0 < k ∧ k + (System.ctT a.System : Int) ≤ 1152921504606846976 ∧ Row.sz a.System ≤ 2 ^ 36 ∧ ¬ (k + (System.ctT a.System : Int) < 0) := ⟨by omega, by omega, by omega, by omega⟩
  have u1 : 0 < k + (System.ctT a.System : Int) ∧ k + (System.ctT a.System : Int) + (ctL a.Views : Int) ≤ 1152921504606846976 ∧ szL a.Views ≤ 2 ^ 36 ∧ ¬ (k + (System.ctT a.System : Int) + (ctL a.Views : Int) < 0) := ⟨by omega, by omega, by omega, by omega⟩
  have u2 : 0 < k + (System.ctT a.System : Int) + (ctL a.Views : Int) ∧ k + (System.ctT a.System : Int) + (ctL a.Views : Int) + (ctL a.Hoped : Int) ≤ 1152921504606846976 ∧ szL a.Hoped ≤ 2 ^ 36 ∧ ¬ (k + (System.ctT a.System : Int) + (ctL a.Views : Int) + (ctL a.Hoped : Int) < 0) := ⟨by omega, by omega, by omega, by omega⟩
  have hr : k + (World.ctT a : Int) = k + (System.ctT a.System : Int) + (ctL a.Views : Int) + (ctL a.Hoped : Int) := by omega
  have hq0 : k + (ctL a.System.Memory.Cells : Int) + (ctL a.System.Jobs : Int) + (ctL a.System.Seals : Int) = k + (System.ctT a.System : Int) := by simp only [System.ctT]; omega
  refine DW.seq ?_
  refine DW.reg (by simp [World.mkT, u0.2.2.2, u1.2.2.2, u2.2.2.2, hq0]; rfl) ?_
  refine DW.seq ?_
  refine DW.regs ?_
  refine RegO.opN 3 (by simp [World.mkT, u0.2.2.2, u1.2.2.2, u2.2.2.2, hq0]; rfl) ?_
  refine RegO.step rfl (OpStep.callA rfl (by simp [World.mkT, u0.2.2.2, u1.2.2.2, u2.2.2.2, hq0]; exact ⟨rfl, rfl⟩) (by simp [World.mkT, u0.2.2.2, u1.2.2.2, u2.2.2.2, hq0]; rfl) (by exact (by have h := heldSystem_spec a.System (k) u0.1 u0.2.1 u0.2.2.1; simp only [raSystem, System.mkT, mkL_len] at h; exact h)) (by simp) (by simp [World.mkT, u0.2.2.2, u1.2.2.2, u2.2.2.2, hq0]; rfl)) ?_
  refine RegO.opN 1 (by simp [World.mkT, u0.2.2.2, u1.2.2.2, u2.2.2.2, hq0]; rfl) ?_
  refine RegO.nil ?_
  refine DW.seq ?_
  refine DW.seq ?_
  refine DW.reg (by simp [World.mkT, u0.2.2.2, u1.2.2.2, u2.2.2.2, hq0]; rfl) ?_
  refine DW.condF (by simp [World.mkT, u0.2.2.2, u1.2.2.2, u2.2.2.2, hq0]) ?_
  refine DW.skip ?_
  refine DW.seq ?_
  refine DW.regs ?_
  refine RegO.opN 3 (by simp [World.mkT, u0.2.2.2, u1.2.2.2, u2.2.2.2, hq0]; rfl) ?_
  refine RegO.step rfl (OpStep.callA rfl (by simp [World.mkT, u0.2.2.2, u1.2.2.2, u2.2.2.2, hq0]; exact ⟨rfl, rfl⟩) (by simp [World.mkT, u0.2.2.2, u1.2.2.2, u2.2.2.2, hq0]; rfl) (by exact heldViewS_spec a.Views (k + (System.ctT a.System : Int)) u1.1 u1.2.1 u1.2.2.1) (by simp) (by simp [World.mkT, u0.2.2.2, u1.2.2.2, u2.2.2.2, hq0]; rfl)) ?_
  refine RegO.opN 1 (by simp [World.mkT, u0.2.2.2, u1.2.2.2, u2.2.2.2, hq0]; rfl) ?_
  refine RegO.nil ?_
  refine DW.seq ?_
  refine DW.seq ?_
  refine DW.reg (by simp [World.mkT, u0.2.2.2, u1.2.2.2, u2.2.2.2, hq0]; rfl) ?_
  refine DW.condF (by simp [World.mkT, u0.2.2.2, u1.2.2.2, u2.2.2.2, hq0]) ?_
  refine DW.skip ?_
  refine DW.seq ?_
  refine DW.regs ?_
  refine RegO.opN 3 (by simp [World.mkT, u0.2.2.2, u1.2.2.2, u2.2.2.2, hq0]; rfl) ?_
  refine RegO.step rfl (OpStep.callA rfl (by simp [World.mkT, u0.2.2.2, u1.2.2.2, u2.2.2.2, hq0]; exact ⟨rfl, rfl⟩) (by simp [World.mkT, u0.2.2.2, u1.2.2.2, u2.2.2.2, hq0]; rfl) (by exact heldViewS_spec a.Hoped (k + (System.ctT a.System : Int) + (ctL a.Views : Int)) u2.1 u2.2.1 u2.2.2.1) (by simp) (by simp [World.mkT, u0.2.2.2, u1.2.2.2, u2.2.2.2, hq0]; rfl)) ?_
  refine RegO.opN 1 (by simp [World.mkT, u0.2.2.2, u1.2.2.2, u2.2.2.2, hq0]; rfl) ?_
  refine RegO.nil ?_
  refine DW.seq ?_
  refine DW.seq ?_
  refine DW.reg (by simp [World.mkT, u0.2.2.2, u1.2.2.2, u2.2.2.2, hq0]; rfl) ?_
  refine DW.condF (by simp [World.mkT, u0.2.2.2, u1.2.2.2, u2.2.2.2, hq0]) ?_
  refine DW.skip ?_
  refine DW.seq ?_
  refine DW.reg (by simp [World.mkT, u0.2.2.2, u1.2.2.2, u2.2.2.2, hq0]; rfl) ?_
  refine DW.ret ?_
  simp [Tryz.results33, hr]
end Go.Proofs.YtjjdjkkhhcbogaaGreat.DM
