import Derived.Test.YtciieaidbiejmaaDoorLT1
namespace Go.Proofs.YtciieaidbiejmaaDoor.DM
set_option linter.unusedVariables false
set_option linter.unusedSimpArgs false
set_option maxRecDepth 4000
set_option maxHeartbeats 8000000
theorem l01In_spec (x lo hi : Int) : Spec Tryd.prog 49 [ri x, ri lo, ri hi] [none] [db (inB x lo hi)] [ri x, ri lo, ri hi] := by
  refine Spec.intro Tryd.func49 rfl rfl Tryd.ntmps49 rfl (by simp) ?_
  refine DW.seq ?_
  refine DW.reg (by simp; rfl) ?_
  refine DW.seq ?_
  by_cases h1 : lo ≤ x
  · skip
    refine DW.reg (by simp [h1]; rfl) ?_
    refine DW.ret ?_
    simp [Tryd.results49, inB, h1]
  · skip
    refine DW.reg (by simp [h1]; rfl) ?_
    refine DW.ret ?_
    simp [Tryd.results49, inB, h1]
theorem within_spec (x lo hi : Int) : Spec Tryd.prog 55 [ri x, ri lo, ri hi] [none] [db (inB x lo hi)] [ri x, ri lo, ri hi] := by
  refine Spec.intro Tryd.func55 rfl rfl Tryd.ntmps55 rfl (by simp) ?_
  refine DW.seq ?_
  refine DW.reg (by simp; rfl) ?_
  refine DW.seq ?_
  by_cases h1 : lo ≤ x
  · skip
    refine DW.reg (by simp [h1]; rfl) ?_
    refine DW.ret ?_
    simp [Tryd.results55, inB, h1]
  · skip
    refine DW.reg (by simp [h1]; rfl) ?_
    refine DW.ret ?_
    simp [Tryd.results55, inB, h1]
theorem l01Figure_spec (n : Nat) (hn : n < 16) : Spec Tryd.prog 89 [ri n] [none] [.sc (.int .u8 (Lib.Hx.digit n).toNat)] [ri n] := by
  refine Spec.intro Tryd.func89 rfl rfl Tryd.ntmps89 rfl (by simp) ?_
  have hd := digit_nat n hn
  refine DW.seq ?_
  refine DW.reg (by simp (maxSteps := 200000) (disch := first | omega | (simp; done) | fail) [wrapI, leT, leF, ltT, ltF, eqF, nleT, nleF, nltT, nltF]; rfl) ?_
  refine DW.seq ?_
  refine DW.seq ?_
  refine DW.reg (by simp (maxSteps := 200000) (disch := first | omega | (simp; done) | fail) [wrapI, leT, leF, ltT, ltF, eqF, nleT, nleF, nltT, nltF]; rfl) ?_
  refine DW.condB (by simp (maxSteps := 200000) (disch := first | omega | (simp; done) | fail) [wrapI, leT, leF, ltT, ltF, eqF, nleT, nleF, nltT, nltF]; exact rfl) (fun hc0 => ?_) (fun hc0 => ?_)
  · have hlt : n < 10 := by
      have : (n : Int) < 10 := by simpa using hc0
      omega
    have hu : IntKind.u8.wrap (48 + (n : Int)) = ((Lib.Hx.digit n).toNat : Int) := by rw [hd, if_pos hlt]; simp [IntKind.wrap, IntKind.bits, IntKind.signed]; omega
    refine DW.seq ?_
    refine DW.reg (by simp (maxSteps := 200000) (disch := first | omega | (simp; done) | fail) [wrapI, leT, leF, ltT, ltF, eqF, nleT, nleF, nltT, nltF, hu]; rfl) ?_
    refine DW.ret ?_
    simp [Tryd.results89]
  · have hlt : ¬ n < 10 := by
      have : ¬ (n : Int) < 10 := by simpa using hc0
      omega
    have hu : IntKind.u8.wrap (97 + (n : Int) - 10) = ((Lib.Hx.digit n).toNat : Int) := by rw [hd, if_neg hlt]; simp [IntKind.wrap, IntKind.bits, IntKind.signed]; omega
    refine DW.skip ?_
    refine DW.seq ?_
    refine DW.reg (by simp (maxSteps := 200000) (disch := first | omega | (simp; done) | fail) [wrapI, leT, leF, ltT, ltF, eqF, nleT, nleF, nltT, nltF, hu]; rfl) ?_
    refine DW.ret ?_
    simp [Tryd.results89]
theorem specDecimal_spec (n : Int) (h0 : -9223372036854775808 ≤ n) (h1 : n < 9223372036854775808) : Spec Tryd.prog 51 [ri n] [none] [ds (decB n)] [ri n] := by
  refine Spec.intro Tryd.func51 rfl rfl Tryd.ntmps51 rfl (by simp) ?_
  refine DW.seq ?_
  refine DW.reg (by simp (maxSteps := 200000) (disch := first | omega | (simp; done) | fail) [wrapI, leT, leF, ltT, ltF, eqF, nleT, nleF, nltT, nltF]; rfl) ?_
  refine DW.seq ?_
  refine DW.seq ?_
  refine DW.reg (by simp (maxSteps := 200000) (disch := first | omega | (simp; done) | fail) [wrapI, leT, leF, ltT, ltF, eqF, nleT, nleF, nltT, nltF]; rfl) ?_
  refine DW.condB (by simp (maxSteps := 200000) (disch := first | omega | (simp; done) | fail) [wrapI, leT, leF, ltT, ltF, eqF, nleT, nleF, nltT, nltF]; exact rfl) (fun hc0 => ?_) (fun hc0 => ?_)
  · have hz : n = 0 := by simpa using hc0
    subst hz
    have hres : decB 0 = ⟨#[48]⟩ := by simp [decB, Lib.itoa, Lib.decDigits]
    refine DW.seq ?_
    refine DW.reg (by simp (maxSteps := 200000) (disch := first | omega | (simp; done) | fail) [wrapI, leT, leF, ltT, ltF, eqF, nleT, nleF, nltT, nltF]; rfl) ?_
    refine DW.ret ?_
    rw [hres]
    simp [Tryd.results51, ba_cons]
  · have hz : ¬ n = 0 := by simpa using hc0
    have hres := decB_fin hz
    refine DW.skip ?_
    refine DW.seq ?_
    refine DW.reg (by simp (maxSteps := 200000) (disch := first | omega | (simp; done) | fail) [wrapI, leT, leF, ltT, ltF, eqF, nleT, nleF, nltT, nltF]; rfl) ?_
    refine DW.seq ?_
    refine DW.reg (by simp (maxSteps := 200000) (disch := first | omega | (simp; done) | fail) [wrapI, leT, leF, ltT, ltF, eqF, nleT, nleF, nltT, nltF]; rfl) ?_
    refine DW.seq ?_
    refine DW.block ?_
    refine DW.loopS (α := Int × List UInt8) (fun a => DecI n a.1 a.2) (fun a => a.1.natAbs) (fun a => [(0, vi a.1), (4, vs ⟨a.2.toArray⟩)]) (fun a => []) [(3, _)] [] [] (n, []) (⟨⟨fun h => h, fun h => h⟩, ⟨h0, h1⟩, by simp⟩) (by simp; exact rfl) (by simp) (by simp) (by rfl) ?_
    rintro ⟨x, l⟩ hI
    simp only at hI ⊢
    refine DW.seq ?_
    refine DW.seq ?_
    refine DW.reg (by simp (maxSteps := 200000) (disch := first | omega | (simp; done) | fail) [wrapI, leT, leF, ltT, ltF, eqF, nleT, nleF, nltT, nltF]; rfl) ?_
    refine DW.condB (by simp (maxSteps := 200000) (disch := first | omega | (simp; done) | fail) [wrapI, leT, leF, ltT, ltF, eqF, nleT, nleF, nltT, nltF]; exact rfl) (fun hc1 => ?_) (fun hc1 => ?_)
    · have hx : x ≠ 0 := by simpa using hc1
      have hs := hI.step hx
      have hxb := hI.2.1
      have hqb := hs.2.1
      have hll := hI.len h0 h1
      have hrm := rem10 x
      have hkt : x.natAbs % 10 < 10 := Nat.mod_lt _ (by omega)
      have hmz : (x.tdiv 10).natAbs < x.natAbs := by
        rw [Int.natAbs_tdiv]
        show x.natAbs / 10 < x.natAbs
        omega
      have hrb : -10 < x.tmod 10 ∧ x.tmod 10 < 10 := by
        have := Int.natAbs_tmod x 10
        have h2 : (x.tmod 10).natAbs = x.natAbs % 10 := this
        omega
      have hqw := wr _ hqb.1 hqb.2
      generalize hkd : x.natAbs % 10 = kk at hs hrm hkt
      refine DW.skip ?_
      refine DW.block ?_
      refine DW.seq ?_
      refine DW.reg (by simp (maxSteps := 200000) (disch := first | omega | (simp; done) | fail) [wrapI, leT, leF, ltT, ltF, eqF, nleT, nleF, nltT, nltF, hqw]; rfl) ?_
      refine DW.seq ?_
      refine DW.seq ?_
      refine DW.reg (by simp (maxSteps := 200000) (disch := first | omega | (simp; done) | fail) [wrapI, leT, leF, ltT, ltF, eqF, nleT, nleF, nltT, nltF, hqw]; rfl) ?_
      refine DW.condB (by simp (maxSteps := 200000) (disch := first | omega | (simp; done) | fail) [wrapI, leT, leF, ltT, ltF, eqF, nleT, nleF, nltT, nltF, hqw]; exact rfl) (fun hc2 => ?_) (fun hc2 => ?_)
      · have hneg : x.tmod 10 < 0 := by simpa using hc2
        have hkk : -x.tmod 10 = (kk : Int) := by rw [if_pos hneg] at hrm; omega
        have hds : IntKind.i64.wrap (-x.tmod 10) = (kk : Int) := by rw [hkk]; exact wr _ (by omega) (by omega)
        refine DW.reg (by simp (maxSteps := 200000) (disch := first | omega | (simp; done) | fail) [wrapI, leT, leF, ltT, ltF, eqF, nleT, nleF, nltT, nltF, hqw, hds]; rfl) ?_
        refine DW.seq ?_
        refine DW.regs ?_
        refine RegO.opN 1 (by simp (maxSteps := 200000) (disch := first | omega | (simp; done) | fail) [wrapI, leT, leF, ltT, ltF, eqF, nleT, nleF, nltT, nltF, hqw, hds, ba_size]; rfl) ?_
        refine RegO.step rfl (OpStep.callA rfl (by simp (maxSteps := 200000) (disch := first | omega | (simp; done) | fail) [wrapI, leT, leF, ltT, ltF, eqF, nleT, nleF, nltT, nltF, hqw, hds, ba_size]; exact ⟨rfl, rfl⟩) (by simp (maxSteps := 200000) (disch := first | omega | (simp; done) | fail) [wrapI, leT, leF, ltT, ltF, eqF, nleT, nleF, nltT, nltF, hqw, hds, ba_size]; rfl) (by exact l01Figure_spec kk (by omega)) (by simp) (by simp (maxSteps := 200000) (disch := first | omega | (simp; done) | fail) [wrapI, leT, leF, ltT, ltF, eqF, nleT, nleF, nltT, nltF, hqw, hds, ba_size]; rfl)) ?_
        refine RegO.opN 1 (by simp (maxSteps := 200000) (disch := first | omega | (simp; done) | fail) [wrapI, leT, leF, ltT, ltF, eqF, nleT, nleF, nltT, nltF, hqw, hds, ba_size]; rfl) ?_
        refine RegO.step rfl (OpStep.rowStr (n := 1) (l := [Lib.Hx.digit kk]) rfl rfl (by decide) (by simp; rfl) (by simp) (by simp) (by simp [rowLen, bytesR, byteD]) (by simp [bytesR, byteD]; (first | exact ⟨rfl, rfl⟩ | rfl))) ?_
        refine RegO.opN 3 (by simp (maxSteps := 200000) (disch := first | omega | (simp; done) | fail) [wrapI, leT, leF, ltT, ltF, eqF, nleT, nleF, nltT, nltF, hqw, hds, ba_size]; rfl) ?_
        refine RegO.nil ?_
        refine DW.reg (by simp (maxSteps := 200000) (disch := first | omega | (simp; done) | fail) [wrapI, leT, leF, ltT, ltF, eqF, nleT, nleF, nltT, nltF, hqw, hds]; rfl) ?_
        exact ⟨(x.tdiv 10, Lib.Hx.digit kk :: l), hs, hmz, by simp [ba_cons], by simp, by simp, by rfl⟩
      · have hneg : ¬ x.tmod 10 < 0 := by simpa using hc2
        have hkk : x.tmod 10 = (kk : Int) := by rw [if_neg hneg] at hrm; omega
        refine DW.skip ?_
        refine DW.seq ?_
        refine DW.regs ?_
        refine RegO.opN 1 (by simp (maxSteps := 200000) (disch := first | omega | (simp; done) | fail) [wrapI, leT, leF, ltT, ltF, eqF, nleT, nleF, nltT, nltF, hqw, hkk, ba_size]; rfl) ?_
        refine RegO.step rfl (OpStep.callA rfl (by simp (maxSteps := 200000) (disch := first | omega | (simp; done) | fail) [wrapI, leT, leF, ltT, ltF, eqF, nleT, nleF, nltT, nltF, hqw, hkk, ba_size]; exact ⟨rfl, rfl⟩) (by simp (maxSteps := 200000) (disch := first | omega | (simp; done) | fail) [wrapI, leT, leF, ltT, ltF, eqF, nleT, nleF, nltT, nltF, hqw, hkk, ba_size]; rfl) (by exact l01Figure_spec kk (by omega)) (by simp) (by simp (maxSteps := 200000) (disch := first | omega | (simp; done) | fail) [wrapI, leT, leF, ltT, ltF, eqF, nleT, nleF, nltT, nltF, hqw, hkk, ba_size]; rfl)) ?_
        refine RegO.opN 1 (by simp (maxSteps := 200000) (disch := first | omega | (simp; done) | fail) [wrapI, leT, leF, ltT, ltF, eqF, nleT, nleF, nltT, nltF, hqw, hkk, ba_size]; rfl) ?_
        refine RegO.step rfl (OpStep.rowStr (n := 1) (l := [Lib.Hx.digit kk]) rfl rfl (by decide) (by simp; rfl) (by simp) (by simp) (by simp [rowLen, bytesR, byteD]) (by simp [bytesR, byteD]; (first | exact ⟨rfl, rfl⟩ | rfl))) ?_
        refine RegO.opN 3 (by simp (maxSteps := 200000) (disch := first | omega | (simp; done) | fail) [wrapI, leT, leF, ltT, ltF, eqF, nleT, nleF, nltT, nltF, hqw, hkk, ba_size]; rfl) ?_
        refine RegO.nil ?_
        refine DW.reg (by simp (maxSteps := 200000) (disch := first | omega | (simp; done) | fail) [wrapI, leT, leF, ltT, ltF, eqF, nleT, nleF, nltT, nltF, hqw, hkk]; rfl) ?_
        exact ⟨(x.tdiv 10, Lib.Hx.digit kk :: l), hs, hmz, by simp [ba_cons], by simp, by simp, by rfl⟩
    · have hx : x = 0 := by simpa using hc1
      have hl := hI.fin hx
      have hll := hI.len h0 h1
      refine DW.exit ?_
      refine DW.seq ?_
      refine DW.seq ?_
      refine DW.reg (by simp (maxSteps := 200000) (disch := first | omega | (simp; done) | fail) [wrapI, leT, leF, ltT, ltF, eqF, nleT, nleF, nltT, nltF]; rfl) ?_
      refine DW.condB (by simp (maxSteps := 200000) (disch := first | omega | (simp; done) | fail) [wrapI, leT, leF, ltT, ltF, eqF, nleT, nleF, nltT, nltF]; exact rfl) (fun hc3 => ?_) (fun hc3 => ?_)
      · have hn0 : n < 0 := by simpa using hc3
        rw [if_pos hn0, ← hl] at hres
        refine DW.seq ?_
        refine DW.reg (by simp (maxSteps := 200000) (disch := first | omega | (simp; done) | fail) [wrapI, leT, leF, ltT, ltF, eqF, nleT, nleF, nltT, nltF]; rfl) ?_
        refine DW.ret ?_
        rw [hres]
        simp [Tryd.results51, ba_cons]
      · have hn0 : ¬ n < 0 := by simpa using hc3
        rw [if_neg hn0, ← hl] at hres
        refine DW.skip ?_
        refine DW.seq ?_
        refine DW.reg (by simp (maxSteps := 200000) (disch := first | omega | (simp; done) | fail) [wrapI, leT, leF, ltT, ltF, eqF, nleT, nleF, nltT, nltF]; rfl) ?_
        refine DW.ret ?_
        rw [hres]
        simp [Tryd.results51, ba_cons]
theorem specHex_spec (s : ByteArray) (hs : s.size ≤ 20000) : Spec Tryd.prog 52 [rs s] [none, none] [ds (hexB s), db true] [rs s] := by
  refine Spec.intro Tryd.func52 rfl rfl Tryd.ntmps52 rfl (by simp) ?_
  have hb1 : 2 * s.size ≤ 40000 := by omega
  have h20 : ¬ (20000 : Int) < s.size := by omega
  refine DW.seq ?_
  refine DW.reg (by simp (maxSteps := 200000) (disch := first | omega | (simp; done) | fail) [wrapI, leT, leF, ltT, ltF, eqF, nleT, nleF, nltT, nltF]; rfl) ?_
  refine DW.seq ?_
  refine DW.seq ?_
  refine DW.reg (by simp (maxSteps := 200000) (disch := first | omega | (simp; done) | fail) [wrapI, leT, leF, ltT, ltF, eqF, nleT, nleF, nltT, nltF]; rfl) ?_
  refine DW.condF (by simp (maxSteps := 200000) (disch := first | omega | (simp; done) | fail) [wrapI, leT, leF, ltT, ltF, eqF, nleT, nleF, nltT, nltF]) ?_
  refine DW.skip ?_
  refine DW.seq ?_
  refine DW.reg (by simp (maxSteps := 200000) (disch := first | omega | (simp; done) | fail) [wrapI, leT, leF, ltT, ltF, eqF, nleT, nleF, nltT, nltF]; rfl) ?_
  refine DW.ghost (Ghost.nlRow 4 30 1 (by simp) (by simp)) ?_
  refine DW.seq ?_
  refine DW.seq ?_
  refine DW.reg (by simp (maxSteps := 200000) (disch := first | omega | (simp; done) | fail) [wrapI, leT, leF, ltT, ltF, eqF, nleT, nleF, nltT, nltF]; rfl) ?_
  refine DW.block ?_
  refine DW.loopS (α := Nat) (fun i => i ≤ s.size) (fun i => s.size - i) (fun i => [(5, vi i), (4, .v (.one (.sl 30 [] 0 (2 * i))))]) (fun i => [(30, .ow () 1 (2 * i) (bytesR (hexL (s.data.toList.take i))))]) [(0, _)] [] [] 0 (Nat.zero_le _) (by simp; exact rfl) (by simp [hexL, Lib.Hx.encode, bytesR]) (by simp) (by rfl) ?_
  intro i hi
  have hml : (hexL (s.data.toList.take i)).length = 2 * i := by rw [hexL_len, List.length_take, ba_len, Nat.min_eq_left hi]
  have htk : List.take (2 * i) (hexL (List.take i s.data.toList)) = hexL (List.take i s.data.toList) := List.take_of_length_le (by omega)
  refine DW.seq ?_
  refine DW.seq ?_
  refine DW.reg (by simp (maxSteps := 200000) (disch := first | omega | (simp; done) | fail) [wrapI, leT, leF, ltT, ltF, eqF, nleT, nleF, nltT, nltF]; rfl) ?_
  refine DW.condB (by simp (maxSteps := 200000) (disch := first | omega | (simp; done) | fail) [wrapI, leT, leF, ltT, ltF, eqF, nleT, nleF, nltT, nltF]; exact rfl) (fun hc1 => ?_) (fun hc1 => ?_)
  · have hlt : i < s.data.toList.length := by
      have : i < s.size := by simpa using hc1
      rw [ba_len]; exact this
    have hlt1 : (i : Int) < s.size := by rw [ba_len] at hlt; omega
    have hd := ba_get s i hlt
    have hsu := hexL_succ s.data.toList i hlt
    have hcb := (s.data.toList[i]).toNat_lt
    generalize s.data.toList[i] = c at hd hsu hcb
    have q1 : (c.toNat : Int).tdiv 16 = ((c.toNat / 16 : Nat) : Int) := by rw [Int.tdiv_eq_ediv_of_nonneg (by omega)]; omega
    have q2 : (c.toNat : Int).tmod 16 = ((c.toNat % 16 : Nat) : Int) := by rw [Int.tmod_eq_emod_of_nonneg (by omega)]; omega
    have hcb2 : c.toNat < 256 := hcb
    have hb2 : 2 * i ≤ 140737488355326 := by omega
    have hb3 : 2 * i + 2 ≤ 140737488355328 := by omega
    refine DW.skip ?_
    refine DW.seq ?_
    refine DW.block ?_
    refine DW.drawn mixed (by kernel_rfl) ?_
    refine RegD.addN 6 (by simp [hlt1, hd, q1, q2, hcb2, hml, htk, hb2, hb3]; (first | (simp (disch := omega) only [wrapI]; done) | (simp (disch := omega) only [wrapI]; exact ⟨rfl, rfl⟩) | skip); (first | done | exact ⟨rfl, rfl⟩ | rfl)) ?_
    refine RegD.cert (Cert.callA rfl (by simp) rfl (by decide) (by simp [hlt1, hd, q1, q2, hcb2, hml, htk, hb2, hb3]; exact ⟨rfl, rfl⟩) (by simp [hlt1, hd, q1, q2, hcb2, hml, htk, hb2, hb3]; rfl) (by exact l01Figure_spec (c.toNat / 16) (by omega)) rfl (by simp) (by simp; rfl) rfl) ?_
    refine RegD.addN 5 (by simp [hlt1, hd, q1, q2, hcb2, hml, htk, hb2, hb3]; (first | (simp (disch := omega) only [wrapI]; done) | (simp (disch := omega) only [wrapI]; exact ⟨rfl, rfl⟩) | skip); (first | done | exact ⟨rfl, rfl⟩ | rfl)) ?_
    refine RegD.cert (Cert.callA rfl (by simp) rfl (by decide) (by simp [hlt1, hd, q1, q2, hcb2, hml, htk, hb2, hb3]; exact ⟨rfl, rfl⟩) (by simp [hlt1, hd, q1, q2, hcb2, hml, htk, hb2, hb3]; rfl) (by exact l01Figure_spec (c.toNat % 16) (by omega)) rfl (by simp) (by simp; rfl) rfl) ?_
    refine RegD.cert (Cert.buildRo (rcs := [.sc (.int .u8 (Lib.Hx.digit (c.toNat / 16)).toNat), .sc (.int .u8 (Lib.Hx.digit (c.toNat % 16)).toNat)]) rfl rfl rfl (by decide) (by simp; exact ⟨rfl, rfl⟩) (by simp; rfl) (by simp; rfl) (by rfl) (by decide) (by decide) (by simp [hlt1, hd, q1, q2, hcb2, hml, htk, hb2, hb3]; rfl) (by simp [hlt1, hd, q1, q2, hcb2, hml, htk, hb2, hb3]; rfl) (by rfl) (by simp)) ?_
    refine RegD.heavyF (by simp) (by simp [hlt1, hd, q1, q2, hcb2, hml, htk, hb2, hb3]; rfl) ?_
    refine RegD.addN 1 (by simp [hlt1, hd, q1, q2, hcb2, hml, htk, hb2, hb3]; (first | (simp (disch := omega) only [wrapI]; done) | (simp (disch := omega) only [wrapI]; exact ⟨rfl, rfl⟩) | skip); (first | done | exact ⟨rfl, rfl⟩ | rfl)) ?_
    refine RegD.nil ⟨by kernel_rfl, ?_⟩
    refine DW.norm [(0, _), (4, _), (5, _)] [(30, _)] [] (by simp [hlt1, hd, q1, q2, hcb2, hml, htk, hb2, hb3]; exact ⟨rfl, rfl, rfl⟩) (by simp [hlt1, hd, q1, q2, hcb2, hml, htk, hb2, hb3]; rfl) (by simp [hlt1, hd, q1, q2, hcb2, hml, htk, hb2, hb3]) (by rfl) ?_
    refine DW.reg (by simp (maxSteps := 200000) (disch := first | omega | (simp; done) | fail) [wrapI, leT, leF, ltT, ltF, eqF, nleT, nleF, nltT, nltF, hlt1, hd, q1, q2, hcb2, hml, htk, hb2, hb3]; rfl) ?_
    exact ⟨i + 1, by omega, by omega, by simp; omega, by simp [hsu, bytesR]; omega, by simp, by rfl⟩
  · have hil : i = s.size := by
      have : ¬ i < s.size := by simpa using hc1
      omega
    subst hil
    have hall : s.data.toList.take s.size = s.data.toList := List.take_of_length_le (by rw [ba_len]; exact Nat.le_refl _)
    have htk2 : List.take (2 * s.size) (hexL s.data.toList) = hexL s.data.toList := List.take_of_length_le (by rw [hexL_len, ba_len]; exact Nat.le_refl _)
    refine DW.exit ?_
    refine DW.seq ?_
    refine DW.regs ?_
    refine RegO.opN 1 (by simp (maxSteps := 200000) (disch := first | omega | (simp; done) | fail) [wrapI, leT, leF, ltT, ltF, eqF, nleT, nleF, nltT, nltF]; rfl) ?_
    refine RegO.step rfl (OpStep.rowStr (n := 2 * s.size) (l := hexL s.data.toList) rfl rfl (by decide) (by simp; rfl) (by simp) (by simp) (by simp [rowLen, hall, hexL_len, ba_len, htk2]) (by simp [hall, hexL_len, ba_len, htk2]; (first | exact ⟨rfl, rfl⟩ | rfl))) ?_
    refine RegO.opN 2 (by simp (maxSteps := 200000) (disch := first | omega | (simp; done) | fail) [wrapI, leT, leF, ltT, ltF, eqF, nleT, nleF, nltT, nltF]; rfl) ?_
    refine RegO.nil ?_
    refine DW.ret ?_
    simp [Tryd.results52, hexB]
end Go.Proofs.YtciieaidbiejmaaDoor.DM
